/- What the printed rows' functions answer: lists in their order. No program. version.Compare: which of two versions is less. version.Texts of two versions, and the comparison of a sort: nothing is drawn back. version.Sort. version.Print: what it answers. The document's examples on versions hold. -/
import Derived.Test.YtnbmdecehlljcaaGreatDoorPBasex1
import Derived.Test.YtnbmdecehlljcaaGreatDoorWMore
import Derived.Lib.Strings
import Derived.Lib.Walk
import Derived.Lib.ConvBytes
import Derived.Lib.AtoiErrMem
import Derived.Lib.Hide
import Derived.WalkKit
import Derived.BigCall
import Derived.BigGuard
import Derived.Test.YtnbmdecehlljcaaGreatDoorVerJ
import Derived.Sort.OwnSortedInts
import Derived.Lib.RowBridge
import Derived.Lib.SortBridge
import Derived.Test.YtnbmdecehlljcaaGreatDoorPPrnx1
import Derived.Test.YtnbmdecehlljcaaGreatDoorPKitx1
namespace Go.Proofs.YtnbmdecehlljcaaGreatDoor
open Go.Proofs.YtnbmdecehlljcaaGreatDoorW.PrintWords Go.Proofs.YtnbmdecehlljcaaGreatDoorW.PrintMore Go.RowKit
set_option linter.unusedVariables false
set_option linter.unusedSimpArgs false
theorem wrap_idV {i : Int} (h1 : -9223372036854775808 ≤ i) (h2 : i ≤ 9223372036854775807) : wrap64 i = i := by unfold wrap64; omega
theorem cmpInt_f (a b : Int) : PBase.cmp_Compare_int.f a b = some (cmpI a b) := by
  unfold PBase.cmp_Compare_int.f PBase.cmp_isNaN_int.f cmpI
  simp
  split
  · rfl
  · split <;> rfl
theorem cmpByte_f (a b : Int) : PBase.cmp_Compare_byte.f a b = some (cmpI a b) := by
  unfold PBase.cmp_Compare_byte.f PBase.cmp_isNaN_byte.f cmpI
  simp
  split
  · rfl
  · split <;> rfl
theorem cmpL_cons (x y : Int) (a b : List Int) : cmpL (x :: a) (y :: b) = if cmpI x y = 0 then cmpL a b else cmpI x y := by
  unfold cmpI
  conv => lhs; unfold cmpL
  by_cases h1 : x < y
  · simp [h1]
  · by_cases h2 : y < x
    · simp [h1, h2]
    · simp [h1, h2]
theorem rows_int_l0 (a b : List Int) (ha : a.length ≤ 4611686018427387904) (hb : b.length ≤ 4611686018427387904) : ∀ (d k i : Nat), a.length - i = d → d < k → i ≤ a.length → i ≤ b.length →
    PBase.version_rows_int.l0 k a b a (a.length : Int) (i : Int) = some (cmpL (a.drop i) (b.drop i)) := by
  intro d
  induction d with
  | zero =>
    intro k i hd hk h1 h2
    obtain ⟨k, rfl⟩ : ∃ m, k = m + 1 := ⟨k - 1, by omega⟩
    have e : i = a.length := by omega
    subst e
    simp only [PBase.version_rows_int.l0]
    rw [if_neg (by omega), cmpInt_f, Option.bind_some, List.drop_length]
    congr 1
    unfold cmpI
    by_cases h : a.length < b.length
    · rw [if_pos (by omega), List.drop_eq_getElem_cons h]
      rfl
    · rw [if_neg (by omega), if_neg (by omega), List.drop_eq_nil_of_le (by omega)]
      rfl
  | succ d ih =>
    intro k i hd hk h1 h2
    obtain ⟨k, rfl⟩ : ∃ m, k = m + 1 := ⟨k - 1, by omega⟩
    have hi : i < a.length := by omega
    simp only [PBase.version_rows_int.l0]
    rw [if_pos (by omega), if_pos (by omega), if_pos (by omega), List.drop_eq_getElem_cons hi]
    by_cases h : i = b.length
    · rw [if_pos (by omega), List.drop_eq_nil_of_le (show b.length ≤ i by omega)]
      rfl
    · have hb2 : i < b.length := by omega
      rw [if_neg (by omega), if_pos (by omega), cmpInt_f, Option.bind_some, List.drop_eq_getElem_cons hb2, cmpL_cons]
      have e1 : rd a (i : Int) = a[i] := by unfold rd; simp [hi]
      have e2 : rd b (i : Int) = b[i] := by unfold rd; simp [hb2]
      rw [e1, e2]
      by_cases hc : cmpI a[i] b[i] = 0
      · rw [if_pos hc, if_pos hc, wrap_idV (by omega) (by omega)]
        exact ih k (i + 1) (by omega) (by omega) (by omega) (by omega)
      · rw [if_neg hc, if_neg hc]
theorem rows_int_f (a b : List Int) (ha : a.length ≤ 4611686018427387904) (hb : b.length ≤ 4611686018427387904) : PBase.version_rows_int.f (a.length + 1) a b = some (cmpL a b) :=
  rows_int_l0 a b ha hb a.length (a.length + 1) 0 (by omega) (by omega) (by omega) (by omega)
theorem rows_byte_l0 (a b : List Int) (ha : a.length ≤ 4611686018427387904) (hb : b.length ≤ 4611686018427387904) : ∀ (d k i : Nat), a.length - i = d → d < k → i ≤ a.length → i ≤ b.length →
    PBase.version_rows_byte.l0 k a b a (a.length : Int) (i : Int) = some (cmpL (a.drop i) (b.drop i)) := by
  intro d
  induction d with
  | zero =>
    intro k i hd hk h1 h2
    obtain ⟨k, rfl⟩ : ∃ m, k = m + 1 := ⟨k - 1, by omega⟩
    have e : i = a.length := by omega
    subst e
    simp only [PBase.version_rows_byte.l0]
    rw [if_neg (by omega), cmpInt_f, Option.bind_some, List.drop_length]
    congr 1
    unfold cmpI
    by_cases h : a.length < b.length
    · rw [if_pos (by omega), List.drop_eq_getElem_cons h]
      rfl
    · rw [if_neg (by omega), if_neg (by omega), List.drop_eq_nil_of_le (by omega)]
      rfl
  | succ d ih =>
    intro k i hd hk h1 h2
    obtain ⟨k, rfl⟩ : ∃ m, k = m + 1 := ⟨k - 1, by omega⟩
    have hi : i < a.length := by omega
    simp only [PBase.version_rows_byte.l0]
    rw [if_pos (by omega), if_pos (by omega), if_pos (by omega), List.drop_eq_getElem_cons hi]
    by_cases h : i = b.length
    · rw [if_pos (by omega), List.drop_eq_nil_of_le (show b.length ≤ i by omega)]
      rfl
    · have hb2 : i < b.length := by omega
      rw [if_neg (by omega), if_pos (by omega), cmpByte_f, Option.bind_some, List.drop_eq_getElem_cons hb2, cmpL_cons]
      have e1 : rd a (i : Int) = a[i] := by unfold rd; simp [hi]
      have e2 : rd b (i : Int) = b[i] := by unfold rd; simp [hb2]
      rw [e1, e2]
      by_cases hc : cmpI a[i] b[i] = 0
      · rw [if_pos hc, if_pos hc, wrap_idV (by omega) (by omega)]
        exact ih k (i + 1) (by omega) (by omega) (by omega) (by omega)
      · rw [if_neg hc, if_neg hc]
theorem rows_byte_f (a b : List Int) (ha : a.length ≤ 4611686018427387904) (hb : b.length ≤ 4611686018427387904) : PBase.version_rows_byte.f (a.length + 1) a b = some (cmpL a b) :=
  rows_byte_l0 a b ha hb a.length (a.length + 1) 0 (by omega) (by omega) (by omega) (by omega)
def or3 (x y z : Int) : Int := if x ≠ 0 then x else if y ≠ 0 then y else z
theorem cmp_Or_f (x y z : Int) : PBase.cmp_Or_int.f 4 [x, y, z] = some (or3 x y z) := by
  have w1 : wrap64 1 = 1 := wrap_idV (by omega) (by omega)
  have w2 : wrap64 2 = 2 := wrap_idV (by omega) (by omega)
  have w3 : wrap64 3 = 3 := wrap_idV (by omega) (by omega)
  unfold PBase.cmp_Or_int.f or3
  by_cases hx : x = 0
  · by_cases hy : y = 0
    · by_cases hz : z = 0
      · simp [PBase.cmp_Or_int.l0, rd, hx, hy, hz, w1, w2, w3]
      · simp [PBase.cmp_Or_int.l0, rd, hx, hy, hz, w1, w2, w3]
    · simp [PBase.cmp_Or_int.l0, rd, hx, hy, w1, w2, w3]
  · simp [PBase.cmp_Or_int.l0, rd, hx]
theorem cmpV_or3 (a : List Int) (s : List UInt8) (b : List Int) (t : List UInt8) : cmpV a s b t = or3 (cmpL a b) (cmpI (noneT s) (noneT t)) (cmpL (bytesI s) (bytesI t)) := rfl
theorem none_f (l : List Int) (s : ByteArray) : PBase.version_Compare_1.f l s = some (noneT s.data.toList) := by
  unfold PBase.version_Compare_1.f noneT
  rw [ByteArray.toList_eq]
  split <;> rfl
end Go.Proofs.YtnbmdecehlljcaaGreatDoor
namespace Go.Proofs.YtnbmdecehlljcaaGreatDoor
open Go.Shelf Go.RowKit Go.Sort Go.Proofs.YtnbmdecehlljcaaGreatDoorW.PrintWords Go.Proofs.YtnbmdecehlljcaaGreatDoorW.PrintLast Go.Proofs.YtnbmdecehlljcaaGreatDoorW.PrintMore
set_option linter.unusedVariables false
set_option linter.unusedSimpArgs false
variable {P : Program} {ops : Array Oper} {Q : Exit → Act → World → Prop}
/-- A call of a function that lies in a slot. -/
theorem goesV_ {oi : Oper} {N : Option Tmp} {a : Act} {w : World} {K : Act → World → Prop} (t : Tmp) {f : FuncId} {fn : Func} {ars : Array Operand} {ts : Array TypeId} (hf : P.funcs[f]? = some fn) (hname : (fn.name == "runtime.NumGoroutine") = false) (hb : fn.body.isSome = true) (args : Array Value)
    (hw : Region.wanted oi (yielded ops a.tmps) = true) (hN : oi.dst = N) (hop : oi.op = .call { callee := .value (.tmp t), args := ars, argTypes := ts }) (hv : a.eval (.tmp t) = .func (.func f) #[] #[]) (hargs : ars.map a.eval = args)
    (h : Calls P f args w fun e w' => ∃ v, e = .returned v ∧ K (a.put N v) w') : if Region.wanted oi (yielded ops a.tmps) = true then Oper.wp P oi a w K Q else K (a.put N undef) w := by
  refine call_ f args hw hN ?_ h
  have he := enters_ hf hname hb args w
  unfold execOp
  simp [hop, resolve, Deferred.ofValue, invoke, hv, hargs, he]
structure BoxAt (W : World) (g : Nat) (A : Option Addr) (n c : Nat) (s : ByteArray) : Prop where
  b : W.heap[g]? = some (.cells #[.slice A n c, .string s] 24 (0, 0))
theorem BoxAt.below {W W' : World} {g : Nat} {A : Option Addr} {n c : Nat} {s : ByteArray} (h : BoxAt W g A n c s) (hb : Below W.heap.size W W') : BoxAt W' g A n c s := ⟨(hb.block _ (by have := (Array.getElem?_eq_some_iff.1 h.b).1; exact this)).trans h.b⟩
theorem box_cells {W : World} {g : Nat} {A : Option Addr} {n c : Nat} {s : ByteArray} (h : BoxAt W g A n c s) : W.cell? ⟨g, 0, none⟩ = some (.slice A n c) ∧ W.cell? ⟨g, 1, none⟩ = some (.string s) := by
  have := h.b
  exact ⟨by simp [World.cell?, this], by simp [World.cell?, this]⟩
theorem conv_row (w : World) (e : TypeId) (s : ByteArray) (is : List Int) (hl : s.size = is.length) (hi : is = bytesI s.data.toList) (hs : s.size ≤ 9223372036854775807) : Kd.C (Kd.int .u8) (Lib.bytesWorld w e s) (some ⟨w.heap.size, 0, none⟩) is.length is ∧ is.length ≤ grownCap w s.size 0 e := by
  have h := bytes_reads w e s hs
  have h2 : bytesOf s = is := hi.symm
  rw [h2, hl] at h
  refine ⟨Kd.C_of_reads (d := (0 : Int)) (h1 := fun _ => rfl) h, ?_⟩
  rw [← hl]
  exact grownCap_ge w s.size 0 e
theorem lit_intsV {W : World} {b : Nat} {t : TypeId} {fr : Nat × Nat} (xs : List Int) (h : W.heap[b]? = some (.cells (xs.map (Value.int .i64)).toArray t fr)) (hl : xs.length ≤ 9223372036854775807) : Kd.C (Kd.int .i64) W (some ⟨b, 0, none⟩) xs.length xs := by
  refine ⟨rfl, hl, fun _ => ⟨_, rfl, fun j p hp => ⟨[.int .i64 p], rfl, rfl, fun i u hu => ?_⟩⟩⟩
  have hi : i = 0 := by
    rcases i with _ | i
    · rfl
    · simp at hu
  subst hi
  have e : u = .int .i64 p := by simpa using hu.symm
  subst e
  have e2 : (⟨b, 0, none⟩ : Addr).add (j * 1 + 0) = ⟨b, j, none⟩ := by simp only [Addr.add, Nat.mul_one, Nat.add_zero, Nat.zero_add]; try (split <;> simp_all)
  show W.cell? ((⟨b, 0, none⟩ : Addr).add (j * 1 + 0)) = _
  rw [e2]
  simp [World.cell?, h, hp]
theorem alloc_intsV (w : World) (t : TypeId) (xs : List Int) (hl : xs.length ≤ 9223372036854775807) : Kd.C (Kd.int .i64) (w.alloc (.cells (xs.map (Value.int .i64)).toArray t)) (some ⟨w.heap.size, 0, none⟩) xs.length xs := lit_intsV xs (heap_alloc_new _ _) hl
theorem GB.of_drawn {w w' : World} (h : Drawn0 w w') : GB w w' := by
  obtain ⟨n, rfl⟩ := h
  exact (GB.refl w).drewN n
theorem none_G (A : Option Addr) (n c : Nat) (s : ByteArray) (w : World) : Calls Tryz.prog 76 #[.agg #[.slice A n c, .string s]] w fun e w' => e = .returned (.int .i64 (noneT s.data.toList)) ∧ GB w w' := by
  by_cases h : s.data.toList = []
  · have e : noneT s.data.toList = 1 := by unfold noneT; rw [if_pos h]
    have h2 : s.toList.isEmpty = true := by rw [ByteArray.toList_eq, h]; rfl
    rw [e]
    clear h e
    go_enter Tryz.func76, Tryz.ntmps76
    go_wp2
    go_ret
    exact ⟨rfl, (GB.refl w).alloc _⟩
  · have e : noneT s.data.toList = 0 := by unfold noneT; rw [if_neg h]
    have h2 : s.toList.isEmpty = false := by rw [ByteArray.toList_eq]; cases hq : s.data.toList with | nil => exact absurd hq h | cons a b => rfl
    rw [e]
    clear h e
    go_enter Tryz.func76, Tryz.ntmps76
    go_wp2
    go_ret
    exact ⟨rfl, (GB.refl w).alloc _⟩
def version_Compare.T2 : Bool × List (List Nat × List Nat) := (true, [([], []), ([0], [0]), ([], []), ([2], [2]), ([1, 3], [1, 3]), ([], []), ([], []), ([5, 6, 4], [5, 6]), ([], []), ([], []), ([8, 9, 7], [8, 9]), ([7, 10, 10], [7, 10]), ([], []), ([12], [12]), ([13], [13]), ([], []), ([15], [15]), ([16], [16]), ([14, 17, 11], [14, 17]), ([4, 11, 18], [4, 11, 18]), ([19, 18], [19]), ([20, 20, 0, 1, 2, 3, 4, 5, 6, 7, 8, 9, 10, 11, 12, 13, 14, 15, 16, 17, 18, 19, 20], [20])])
def version_Compare.B2 : List Nat := [0, 1, 0, 4, 15, 0, 0, 127, 0, 0, 1023, 2047, 0, 4096, 12288, 0, 32768, 98304, 262143, 524287, 1048575, 2097151]
theorem version_Compare.tab2 : rtab .any (opsOf Tryz.f45 2) = version_Compare.T2 := by kernel_rfl
theorem version_Compare.bits2 : waitsOk version_Compare.T2.2 version_Compare.B2 = true := by kernel_rfl
set_option maxHeartbeats 8000000 in
set_option maxRecDepth 100000 in
theorem Compare_G (A0 A1 : Option Addr) (c0 c1 : Nat) (l0 l1 : List Int) (sa sb : ByteArray) (w : World) (hr0 : Kd.C (Kd.int .i64) w A0 l0.length l0) (hc0 : l0.length ≤ c0) (hr1 : Kd.C (Kd.int .i64) w A1 l1.length l1) (hc1 : l1.length ≤ c1)
    (h0 : l0.length ≤ 4611686018427387904) (h1 : l1.length ≤ 4611686018427387904) (ha : sa.size ≤ 4611686018427387904) (hb : sb.size ≤ 4611686018427387904) :
    Calls Tryz.prog 45 #[.agg #[.slice A0 l0.length c0, .string sa], .agg #[.slice A1 l1.length c1, .string sb]] w fun e w' => e = .returned (.int .i64 (cmpV l0 sa.data.toList l1 sb.data.toList)) ∧ GB w w' := by
  have HN1 : Aside0 (∀ W, Calls Tryz.prog 76 #[.agg #[.slice A0 l0.length c0, .string sa]] W fun e w' => e = .returned (.int .i64 (noneT sa.data.toList)) ∧ GB W w') := ⟨fun W => none_G A0 _ c0 sa W⟩
  have HN2 : Aside0 (∀ W, Calls Tryz.prog 76 #[.agg #[.slice A1 l1.length c1, .string sb]] W fun e w' => e = .returned (.int .i64 (noneT sb.data.toList)) ∧ GB W w') := ⟨fun W => none_G A1 _ c1 sb W⟩
  have HR2 : Aside0 (∀ W, Calls Tryz.prog 79 #[.int .i64 (noneT sa.data.toList), .int .i64 (noneT sb.data.toList)] W fun e w' => e = .returned (.int .i64 (cmpI (noneT sa.data.toList) (noneT sb.data.toList))) ∧ GB W w') := ⟨fun W => (PBase.cmp_Compare_int.calls _ _ _ W (cmpInt_f _ _)).mono fun _ _ h => ⟨h.1, GB.of_drawn h.2⟩⟩
  have E_ia : Aside0 (sa.size = (bytesI sa.data.toList).length) := ⟨by rw [Lib.size_eq]; simp [bytesI]⟩
  have E_ib : Aside0 (sb.size = (bytesI sb.data.toList).length) := ⟨by rw [Lib.size_eq]; simp [bytesI]⟩
  have HR3 : Aside0 (∀ W a0 k0 a1 k1, (Kd.C (Kd.int .u8) W a0 (bytesI sa.data.toList).length (bytesI sa.data.toList) ∧ (bytesI sa.data.toList).length ≤ k0) → (Kd.C (Kd.int .u8) W a1 (bytesI sb.data.toList).length (bytesI sb.data.toList) ∧ (bytesI sb.data.toList).length ≤ k1) →
      Calls Tryz.prog 80 #[.slice a0 (bytesI sa.data.toList).length k0, .slice a1 (bytesI sb.data.toList).length k1] W fun e w' => e = .returned (.int .i64 (cmpL (bytesI sa.data.toList) (bytesI sb.data.toList))) ∧ GB W w') :=
    ⟨fun W a0 k0 a1 k1 q0 q1 => (PBase.version_rows_byte.calls _ _ _ _ _ _ _ _ W q0.1 q0.2 q1.1 q1.2 (rows_byte_f _ _ (by rw [← E_ia.out]; exact ha) (by rw [← E_ib.out]; exact hb))).mono fun _ _ h => ⟨h.1, GB.of_drawn h.2⟩⟩
  have HR0 : Aside0 (∀ W, Below w.heap.size w W → Calls Tryz.prog 78 #[.slice A0 l0.length c0, .slice A1 l1.length c1] W fun e w' => e = .returned (.int .i64 (cmpL l0 l1)) ∧ GB W w') :=
    ⟨fun W hb => (PBase.version_rows_int.calls _ _ _ _ _ _ _ _ W (Kd.C_below hr0 hb) hc0 (Kd.C_below hr1 hb) hc1 (rows_int_f _ _ h0 h1)).mono fun _ _ h => ⟨h.1, GB.of_drawn h.2⟩⟩
  have hor := cmpV_or3 l0 sa.data.toList l1 sb.data.toList
  have L_ia : Aside0 (sa.size ≤ 9223372036854775807) := ⟨by omega⟩
  have L_ib : Aside0 (sb.size ≤ 9223372036854775807) := ⟨by omega⟩
  have Q_ia : Aside0 (bytesI sa.data.toList = bytesI sa.data.toList) := ⟨rfl⟩
  have Q_ib : Aside0 (bytesI sb.data.toList = bytesI sb.data.toList) := ⟨rfl⟩
  rw [hor]
  clear hor hr0 hr1 ha hb hc0 hc1 h0 h1
  generalize cmpL l0 l1 = r1 at *
  generalize cmpL (bytesI sa.data.toList) (bytesI sb.data.toList) = r3 at *
  generalize cmpI (noneT sa.data.toList) (noneT sb.data.toList) = r2 at *
  generalize noneT sa.data.toList = n1 at *
  generalize noneT sb.data.toList = n2 at *
  have HR4 : Aside0 (∀ W b, Kd.C (Kd.int .i64) W (some ⟨b, 0, none⟩) ([r1, r2, r3] : List Int).length [r1, r2, r3] → Calls Tryz.prog 77 #[.slice (some ⟨b, 0, none⟩) 3 3] W fun e w' => e = .returned (.int .i64 (or3 r1 r2 r3)) ∧ GB W w') :=
    ⟨fun W b h => (PBase.cmp_Or_int.calls 4 _ 3 [r1, r2, r3] _ W h (by simp) (cmp_Or_f r1 r2 r3)).mono fun _ _ h => ⟨h.1, GB.of_drawn h.2⟩⟩
  generalize or3 r1 r2 r3 = rr at *
  generalize hia : bytesI sa.data.toList = ia at E_ia HR3
  generalize hib : bytesI sb.data.toList = ib at E_ib HR3
  replace Q_ia : Aside0 (ia = bytesI sa.data.toList) := ⟨hia.symm⟩
  replace Q_ib : Aside0 (ib = bytesI sb.data.toList) := ⟨hib.symm⟩
  clear hia hib
  have HA0 : Aside0 (BoxAt ((w.alloc (.cells #[.slice A0 l0.length c0, .string sa] 24)).alloc (.cells #[.slice A1 l1.length c1, .string sb] 24)) w.heap.size A0 l0.length c0 sa) := ⟨BoxAt.below ⟨heap_alloc_new _ _⟩ ((Below.refl _ _).alloc (Nat.le_refl _) _)⟩
  have HB0 : Aside0 (BoxAt ((w.alloc (.cells #[.slice A0 l0.length c0, .string sa] 24)).alloc (.cells #[.slice A1 l1.length c1, .string sb] 24)) (w.heap.size + 1) A1 l1.length c1 sb) := ⟨⟨by have := heap_alloc_new (w.alloc (.cells #[.slice A0 l0.length c0, .string sa] 24)) (.cells #[.slice A1 l1.length c1, .string sb] 24); simpa using this⟩⟩
  have HW0 : Aside0 (GB w ((w.alloc (.cells #[.slice A0 l0.length c0, .string sa] 24)).alloc (.cells #[.slice A1 l1.length c1, .string sb] 24))) := ⟨((GB.refl _).alloc _).alloc _⟩
  go_enter Tryz.func45, Tryz.ntmps45
  go_wp2_with fail
  generalize (w.alloc (.cells #[.slice A0 l0.length c0, .string sa] 24)).alloc (.cells #[.slice A1 l1.length c1, .string sb] 24) = W1 at *
  have HA := Aside0.mk (HA0.out.below ((Below.refl _ W1).drew))
  have HBB := Aside0.mk (HB0.out.below ((Below.refl _ W1).drew))
  have HR1 : Aside0 (∀ W, Below W1.drew.heap.size W1.drew W → Calls Tryz.prog 78 #[.slice A0 l0.length c0, .slice A1 l1.length c1] W fun e w' => e = .returned (.int .i64 r1) ∧ GB W w') := ⟨fun W hb => HR0.out W (HW0.out.drew.b.trans (hb.mono HW0.out.drew.b.size))⟩
  have HWD := Aside0.mk HW0.out.drew
  have HB := Aside0.mk (GB.refl W1.drew)
  clear HA0 HB0 HR0 HW0
  generalize w.heap.size + 1 = gB at *
  generalize hGA : w.heap.size = gA at *
  refine start_ (n := 22) (S := fun w' => True) (ds := []) #[false, false, false, false, false, false, false, false, false, false, false, false, false, false, false, false, false, false, false, false, false, false] (by kernel_rfl) rfl rfl trivial (fun hHeld => ?_)
  refine with_tabW version_Compare.tab2 version_Compare.bits2 (fun HT_ HW_ => ?_)
  generalize W1.drew = wb at HA HBB HB HR1 HWD hHeld ⊢
  refine pure_ (i := 0) (N := some 6) (v := ?_) (a' := ?_) #[true, false, false, false, false, false, false, false, false, false, false, false, false, false, false, false, false, false, false, false, false, false] rfl rfl (any_of HT_.out (by kernel_rfl)) (fun _ _ _ h => h) (Or.inl ⟨by rfl, ?_⟩) ?_ ?_
  rotate_left
  · intro w'
    go_simp
    with_reducible rfl
  rotate_left
  · simp only [Act.put, List.setIfInBounds_toArray, List.set_cons_zero, List.set_cons_succ, i64_w, i32_w]
    rfl
  refine pure_ (i := 2) (N := some 8) (v := ?_) (a' := ?_) #[true, false, true, false, false, false, false, false, false, false, false, false, false, false, false, false, false, false, false, false, false, false] rfl rfl (any_of HT_.out (by kernel_rfl)) (fun _ _ _ h => h) (Or.inl ⟨by rfl, ?_⟩) ?_ ?_
  rotate_left
  · intro w'
    go_simp
    with_reducible rfl
  rotate_left
  · simp only [Act.put, List.setIfInBounds_toArray, List.set_cons_zero, List.set_cons_succ, i64_w, i32_w]
    rfl
  refine pure_ (i := 5) (N := some 11) (v := ?_) (a' := ?_) #[true, false, true, false, false, true, false, false, false, false, false, false, false, false, false, false, false, false, false, false, false, false] rfl rfl (any_of HT_.out (by kernel_rfl)) (fun _ _ _ h => h) (Or.inl ⟨by rfl, ?_⟩) ?_ ?_
  rotate_left
  · intro w'
    go_simp
    with_reducible rfl
  rotate_left
  · simp only [Act.put, List.setIfInBounds_toArray, List.set_cons_zero, List.set_cons_succ, i64_w, i32_w]
    rfl
  refine pure_ (i := 8) (N := some 14) (v := ?_) (a' := ?_) #[true, false, true, false, false, true, false, false, true, false, false, false, false, false, false, false, false, false, false, false, false, false] rfl rfl (any_of HT_.out (by kernel_rfl)) (fun _ _ _ h => h) (Or.inl ⟨by rfl, ?_⟩) ?_ ?_
  rotate_left
  · intro w'
    go_simp
    with_reducible rfl
  rotate_left
  · simp only [Act.put, List.setIfInBounds_toArray, List.set_cons_zero, List.set_cons_succ, i64_w, i32_w]
    rfl
  refine pure_ (i := 12) (N := some 18) (v := ?_) (a' := ?_) #[true, false, true, false, false, true, false, false, true, false, false, false, true, false, false, false, false, false, false, false, false, false] rfl rfl (any_of HT_.out (by kernel_rfl)) (fun _ _ _ h => h) (Or.inl ⟨by rfl, ?_⟩) ?_ ?_
  rotate_left
  · intro w'
    go_simp
    with_reducible rfl
  rotate_left
  · simp only [Act.put, List.setIfInBounds_toArray, List.set_cons_zero, List.set_cons_succ, i64_w, i32_w]
    rfl
  refine pure_ (i := 15) (N := some 21) (v := ?_) (a' := ?_) #[true, false, true, false, false, true, false, false, true, false, false, false, true, false, false, true, false, false, false, false, false, false] rfl rfl (any_of HT_.out (by kernel_rfl)) (fun _ _ _ h => h) (Or.inl ⟨by rfl, ?_⟩) ?_ ?_
  rotate_left
  · intro w'
    go_simp
    with_reducible rfl
  rotate_left
  · simp only [Act.put, List.setIfInBounds_toArray, List.set_cons_zero, List.set_cons_succ, i64_w, i32_w]
    rfl
  refine inv_at [1, 3, 4, 6, 7, 9, 10, 11, 13, 14, 16, 17, 18, 19, 20, 21] (fun a0_ b a w' => ∃ (x1 : Nat) (k1 : Nat) (x2 : Nat) (k2 : Nat) (x3 : Nat) (m14_ : Value) (m17_ : Value) (m19_ : Value), a = putSel a0_ b [(1, 7, .slice A0 l0.length c0), (3, 9, .slice A1 l1.length c1), (4, 10, .int .i64 r1), (6, 12, .agg #[.slice A0 l0.length c0, .string sa]), (7, 13, .int .i64 n1), (9, 15, .agg #[.slice A1 l1.length c1, .string sb]), (10, 16, .int .i64 n2), (11, 17, .int .i64 r2), (13, 19, .string sa), (14, 20, m14_), (16, 22, .string sb), (17, 23, m17_), (18, 24, .int .i64 r3), (19, 25, m19_), (20, 26, .int .i64 rr), (21, 4, .int .i64 rr)] ∧ (GB wb w') ∧ (b 14 = true → Kd.C (Kd.int .u8) w' (some ⟨x1, 0, none⟩) ia.length ia ∧ ia.length ≤ k1) ∧ (b 17 = true → Kd.C (Kd.int .u8) w' (some ⟨x2, 0, none⟩) ib.length ib ∧ ib.length ≤ k2) ∧ (b 19 = true → Kd.C (Kd.int .i64) w' (some ⟨x3, 0, none⟩) ([r1, r2, r3] : List Int).length [r1, r2, r3]) ∧ (b 14 = true → (m14_ : Value) = .slice (some ⟨x1, 0, none⟩) ia.length k1) ∧ (b 17 = true → (m17_ : Value) = .slice (some ⟨x2, 0, none⟩) ib.length k2) ∧ (b 19 = true → (m19_ : Value) = .slice (some ⟨x3, 0, none⟩) 3 3)) HT_.out HW_.out (by kernel_rfl) (by kernel_rfl) ?_ ?_ ?_
  · exact ⟨0, 0, 0, 0, 0, .bool false, .bool false, .bool false, by simp only [putSel, Bool.false_eq_true, if_false], HB.out, fun h_ => absurd h_ (by decide), fun h_ => absurd h_ (by decide), fun h_ => absurd h_ (by decide), fun h_ => absurd h_ (by decide), fun h_ => absurd h_ (by decide), fun h_ => absurd h_ (by decide)⟩
  · skip
    clear HB
    refine steps_cons ?_ ?_
    · rintro b a w' ⟨x1, k1, x2, k2, x3, m14_, m17_, m19_, ha, Q_HB, Q_B1, Q_B2, Q_B3, Q_X14_, Q_X17_, Q_X19_⟩ hb_ hon hoff
      refine ⟨_, rfl, fun K hK => ?_⟩
      have e6 : a.tmps[6]? = some (.pointer (some ⟨gA, 0, none⟩)) := by rw [ha]; exact (putSel_off rfl).trans rfl
      replace ha := Aside0.mk ha
      have HB := Aside0.mk Q_HB
      obtain ⟨ca0, ca1⟩ := box_cells (HA.out.below HB.out.b)
      refine value_ (w1 := w') (v := .slice A0 l0.length c0) (by rfl) rfl ?_ ?_
      · go_simp
        (try simp only [i64_w])
        try rfl
      refine hK.out _ _ ⟨x1, k1, x2, k2, x3, m14_, m17_, m19_, (by rw [ha.out]; exact putSel_upk 0 hb_ rfl rfl rfl), Q_HB, Q_B1, Q_B2, fun h0_ => absurd ((hoff 19 (by kernel_rfl)).symm.trans h0_) (by decide), Q_X14_, Q_X17_, fun h0_ => absurd ((hoff 19 (by kernel_rfl)).symm.trans h0_) (by decide)⟩
    refine steps_cons ?_ ?_
    · rintro b a w' ⟨x1, k1, x2, k2, x3, m14_, m17_, m19_, ha, Q_HB, Q_B1, Q_B2, Q_B3, Q_X14_, Q_X17_, Q_X19_⟩ hb_ hon hoff
      refine ⟨_, rfl, fun K hK => ?_⟩
      have e8 : a.tmps[8]? = some (.pointer (some ⟨gB, 0, none⟩)) := by rw [ha]; exact (putSel_off rfl).trans rfl
      replace ha := Aside0.mk ha
      have HB := Aside0.mk Q_HB
      obtain ⟨cb0, cb1⟩ := box_cells (HBB.out.below HB.out.b)
      refine value_ (w1 := w') (v := .slice A1 l1.length c1) (by rfl) rfl ?_ ?_
      · go_simp
        (try simp only [i64_w])
        try rfl
      refine hK.out _ _ ⟨x1, k1, x2, k2, x3, m14_, m17_, m19_, (by rw [ha.out]; exact putSel_upk 1 hb_ rfl rfl rfl), Q_HB, Q_B1, Q_B2, fun h0_ => absurd ((hoff 19 (by kernel_rfl)).symm.trans h0_) (by decide), Q_X14_, Q_X17_, fun h0_ => absurd ((hoff 19 (by kernel_rfl)).symm.trans h0_) (by decide)⟩
    refine steps_cons ?_ ?_
    · rintro b a w' ⟨x1, k1, x2, k2, x3, m14_, m17_, m19_, ha, Q_HB, Q_B1, Q_B2, Q_B3, Q_X14_, Q_X17_, Q_X19_⟩ hb_ hon hoff
      refine ⟨_, rfl, fun K hK => ?_⟩
      have e7 : a.tmps[7]? = some (.slice A0 l0.length c0) := by rw [ha]; exact putSel_on (e := (1, 7, .slice A0 l0.length c0)) 0 rfl rfl (hon 1 (by kernel_rfl)) rfl
      have e9 : a.tmps[9]? = some (.slice A1 l1.length c1) := by rw [ha]; exact putSel_on (e := (3, 9, .slice A1 l1.length c1)) 1 rfl rfl (hon 3 (by kernel_rfl)) rfl
      replace ha := Aside0.mk ha
      have HB := Aside0.mk Q_HB
      refine goes_ Tryz.func78 (by kernel_rfl) rfl #[.slice A0 l0.length c0, .slice A1 l1.length c1] (by rfl) rfl rfl (by first | (simp only [List.map_toArray, List.map_cons, List.map_nil, Act.eval, Array.getD_eq_getD_getElem?, Option.getD_some, e7, e9]; done) | (simp only [List.map_toArray, List.map_cons, List.map_nil, Act.eval, Array.getD_eq_getD_getElem?, Option.getD_some, e7, e9]; rfl)) ?_
      refine (HR1.out w' HB.out.b).mono ?_
      rintro e w2 ⟨rfl, hb2⟩
      refine ⟨_, rfl, ?_⟩
      refine hK.out _ _ ⟨x1, k1, x2, k2, x3, m14_, m17_, m19_, (by rw [ha.out]; exact putSel_upk 2 hb_ rfl rfl rfl), (HB.out.trans hb2), fun h0_ => ⟨Kd.C_below (Q_B1 h0_).1 hb2.b, (Q_B1 h0_).2⟩, fun h0_ => ⟨Kd.C_below (Q_B2 h0_).1 hb2.b, (Q_B2 h0_).2⟩, fun h0_ => absurd ((hoff 19 (by kernel_rfl)).symm.trans h0_) (by decide), Q_X14_, Q_X17_, fun h0_ => absurd ((hoff 19 (by kernel_rfl)).symm.trans h0_) (by decide)⟩
    refine steps_cons ?_ ?_
    · rintro b a w' ⟨x1, k1, x2, k2, x3, m14_, m17_, m19_, ha, Q_HB, Q_B1, Q_B2, Q_B3, Q_X14_, Q_X17_, Q_X19_⟩ hb_ hon hoff
      refine ⟨_, rfl, fun K hK => ?_⟩
      have e2 : a.tmps[2]? = some (.pointer (some ⟨gA, 0, none⟩)) := by rw [ha]; exact (putSel_off rfl).trans rfl
      replace ha := Aside0.mk ha
      have HB := Aside0.mk Q_HB
      obtain ⟨ca0, ca1⟩ := box_cells (HA.out.below HB.out.b)
      refine value_ (w1 := w') (v := .agg #[.slice A0 l0.length c0, .string sa]) (by rfl) rfl ?_ ?_
      · go_simp
        (try simp only [i64_w])
        try rfl
      refine hK.out _ _ ⟨x1, k1, x2, k2, x3, m14_, m17_, m19_, (by rw [ha.out]; exact putSel_upk 3 hb_ rfl rfl rfl), Q_HB, Q_B1, Q_B2, fun h0_ => absurd ((hoff 19 (by kernel_rfl)).symm.trans h0_) (by decide), Q_X14_, Q_X17_, fun h0_ => absurd ((hoff 19 (by kernel_rfl)).symm.trans h0_) (by decide)⟩
    refine steps_cons ?_ ?_
    · rintro b a w' ⟨x1, k1, x2, k2, x3, m14_, m17_, m19_, ha, Q_HB, Q_B1, Q_B2, Q_B3, Q_X14_, Q_X17_, Q_X19_⟩ hb_ hon hoff
      refine ⟨_, rfl, fun K hK => ?_⟩
      have e11 : a.tmps[11]? = some (.func (.func 76) #[] #[]) := by rw [ha]; exact (putSel_off rfl).trans rfl
      have e12 : a.tmps[12]? = some (.agg #[.slice A0 l0.length c0, .string sa]) := by rw [ha]; exact putSel_on (e := (6, 12, .agg #[.slice A0 l0.length c0, .string sa])) 3 rfl rfl (hon 6 (by kernel_rfl)) rfl
      replace ha := Aside0.mk ha
      have HB := Aside0.mk Q_HB
      refine goesV_ 11 (f := 76) Tryz.func76 (by kernel_rfl) rfl #[.agg #[.slice A0 l0.length c0, .string sa]] (by rfl) rfl rfl (by simp only [Act.eval, Array.getD_eq_getD_getElem?, Option.getD_some, e11]) (by first | (simp only [List.map_toArray, List.map_cons, List.map_nil, Act.eval, Array.getD_eq_getD_getElem?, Option.getD_some, e11, e12]; done) | (simp only [List.map_toArray, List.map_cons, List.map_nil, Act.eval, Array.getD_eq_getD_getElem?, Option.getD_some, e11, e12]; rfl)) ?_
      refine (HN1.out w').mono ?_
      rintro e w2 ⟨rfl, hb2⟩
      refine ⟨_, rfl, ?_⟩
      refine hK.out _ _ ⟨x1, k1, x2, k2, x3, m14_, m17_, m19_, (by rw [ha.out]; exact putSel_upk 4 hb_ rfl rfl rfl), (HB.out.trans hb2), fun h0_ => ⟨Kd.C_below (Q_B1 h0_).1 hb2.b, (Q_B1 h0_).2⟩, fun h0_ => ⟨Kd.C_below (Q_B2 h0_).1 hb2.b, (Q_B2 h0_).2⟩, fun h0_ => absurd ((hoff 19 (by kernel_rfl)).symm.trans h0_) (by decide), Q_X14_, Q_X17_, fun h0_ => absurd ((hoff 19 (by kernel_rfl)).symm.trans h0_) (by decide)⟩
    refine steps_cons ?_ ?_
    · rintro b a w' ⟨x1, k1, x2, k2, x3, m14_, m17_, m19_, ha, Q_HB, Q_B1, Q_B2, Q_B3, Q_X14_, Q_X17_, Q_X19_⟩ hb_ hon hoff
      refine ⟨_, rfl, fun K hK => ?_⟩
      have e3 : a.tmps[3]? = some (.pointer (some ⟨gB, 0, none⟩)) := by rw [ha]; exact (putSel_off rfl).trans rfl
      replace ha := Aside0.mk ha
      have HB := Aside0.mk Q_HB
      obtain ⟨cb0, cb1⟩ := box_cells (HBB.out.below HB.out.b)
      refine value_ (w1 := w') (v := .agg #[.slice A1 l1.length c1, .string sb]) (by rfl) rfl ?_ ?_
      · go_simp
        (try simp only [i64_w])
        try rfl
      refine hK.out _ _ ⟨x1, k1, x2, k2, x3, m14_, m17_, m19_, (by rw [ha.out]; exact putSel_upk 5 hb_ rfl rfl rfl), Q_HB, Q_B1, Q_B2, fun h0_ => absurd ((hoff 19 (by kernel_rfl)).symm.trans h0_) (by decide), Q_X14_, Q_X17_, fun h0_ => absurd ((hoff 19 (by kernel_rfl)).symm.trans h0_) (by decide)⟩
    refine steps_cons ?_ ?_
    · rintro b a w' ⟨x1, k1, x2, k2, x3, m14_, m17_, m19_, ha, Q_HB, Q_B1, Q_B2, Q_B3, Q_X14_, Q_X17_, Q_X19_⟩ hb_ hon hoff
      refine ⟨_, rfl, fun K hK => ?_⟩
      have e14 : a.tmps[14]? = some (.func (.func 76) #[] #[]) := by rw [ha]; exact (putSel_off rfl).trans rfl
      have e15 : a.tmps[15]? = some (.agg #[.slice A1 l1.length c1, .string sb]) := by rw [ha]; exact putSel_on (e := (9, 15, .agg #[.slice A1 l1.length c1, .string sb])) 5 rfl rfl (hon 9 (by kernel_rfl)) rfl
      replace ha := Aside0.mk ha
      have HB := Aside0.mk Q_HB
      refine goesV_ 14 (f := 76) Tryz.func76 (by kernel_rfl) rfl #[.agg #[.slice A1 l1.length c1, .string sb]] (by rfl) rfl rfl (by simp only [Act.eval, Array.getD_eq_getD_getElem?, Option.getD_some, e14]) (by first | (simp only [List.map_toArray, List.map_cons, List.map_nil, Act.eval, Array.getD_eq_getD_getElem?, Option.getD_some, e14, e15]; done) | (simp only [List.map_toArray, List.map_cons, List.map_nil, Act.eval, Array.getD_eq_getD_getElem?, Option.getD_some, e14, e15]; rfl)) ?_
      refine (HN2.out w').mono ?_
      rintro e w2 ⟨rfl, hb2⟩
      refine ⟨_, rfl, ?_⟩
      refine hK.out _ _ ⟨x1, k1, x2, k2, x3, m14_, m17_, m19_, (by rw [ha.out]; exact putSel_upk 6 hb_ rfl rfl rfl), (HB.out.trans hb2), fun h0_ => ⟨Kd.C_below (Q_B1 h0_).1 hb2.b, (Q_B1 h0_).2⟩, fun h0_ => ⟨Kd.C_below (Q_B2 h0_).1 hb2.b, (Q_B2 h0_).2⟩, fun h0_ => absurd ((hoff 19 (by kernel_rfl)).symm.trans h0_) (by decide), Q_X14_, Q_X17_, fun h0_ => absurd ((hoff 19 (by kernel_rfl)).symm.trans h0_) (by decide)⟩
    refine steps_cons ?_ ?_
    · rintro b a w' ⟨x1, k1, x2, k2, x3, m14_, m17_, m19_, ha, Q_HB, Q_B1, Q_B2, Q_B3, Q_X14_, Q_X17_, Q_X19_⟩ hb_ hon hoff
      refine ⟨_, rfl, fun K hK => ?_⟩
      have e13 : a.tmps[13]? = some (.int .i64 n1) := by rw [ha]; exact putSel_on (e := (7, 13, .int .i64 n1)) 4 rfl rfl (hon 7 (by kernel_rfl)) rfl
      have e16 : a.tmps[16]? = some (.int .i64 n2) := by rw [ha]; exact putSel_on (e := (10, 16, .int .i64 n2)) 6 rfl rfl (hon 10 (by kernel_rfl)) rfl
      replace ha := Aside0.mk ha
      have HB := Aside0.mk Q_HB
      refine goes_ Tryz.func79 (by kernel_rfl) rfl #[.int .i64 n1, .int .i64 n2] (by rfl) rfl rfl (by first | (simp only [List.map_toArray, List.map_cons, List.map_nil, Act.eval, Array.getD_eq_getD_getElem?, Option.getD_some, e13, e16]; done) | (simp only [List.map_toArray, List.map_cons, List.map_nil, Act.eval, Array.getD_eq_getD_getElem?, Option.getD_some, e13, e16]; rfl)) ?_
      refine (HR2.out w').mono ?_
      rintro e w2 ⟨rfl, hb2⟩
      refine ⟨_, rfl, ?_⟩
      refine hK.out _ _ ⟨x1, k1, x2, k2, x3, m14_, m17_, m19_, (by rw [ha.out]; exact putSel_upk 7 hb_ rfl rfl rfl), (HB.out.trans hb2), fun h0_ => ⟨Kd.C_below (Q_B1 h0_).1 hb2.b, (Q_B1 h0_).2⟩, fun h0_ => ⟨Kd.C_below (Q_B2 h0_).1 hb2.b, (Q_B2 h0_).2⟩, fun h0_ => absurd ((hoff 19 (by kernel_rfl)).symm.trans h0_) (by decide), Q_X14_, Q_X17_, fun h0_ => absurd ((hoff 19 (by kernel_rfl)).symm.trans h0_) (by decide)⟩
    refine steps_cons ?_ ?_
    · rintro b a w' ⟨x1, k1, x2, k2, x3, m14_, m17_, m19_, ha, Q_HB, Q_B1, Q_B2, Q_B3, Q_X14_, Q_X17_, Q_X19_⟩ hb_ hon hoff
      refine ⟨_, rfl, fun K hK => ?_⟩
      have e18 : a.tmps[18]? = some (.pointer (some ⟨gA, 1, none⟩)) := by rw [ha]; exact (putSel_off rfl).trans rfl
      replace ha := Aside0.mk ha
      have HB := Aside0.mk Q_HB
      obtain ⟨ca0, ca1⟩ := box_cells (HA.out.below HB.out.b)
      refine value_ (w1 := w') (v := .string sa) (by rfl) rfl ?_ ?_
      · go_simp
        (try simp only [i64_w])
        try rfl
      refine hK.out _ _ ⟨x1, k1, x2, k2, x3, m14_, m17_, m19_, (by rw [ha.out]; exact putSel_upk 8 hb_ rfl rfl rfl), Q_HB, fun h0_ => absurd ((hoff 14 (by kernel_rfl)).symm.trans h0_) (by decide), Q_B2, fun h0_ => absurd ((hoff 19 (by kernel_rfl)).symm.trans h0_) (by decide), fun h0_ => absurd ((hoff 14 (by kernel_rfl)).symm.trans h0_) (by decide), Q_X17_, fun h0_ => absurd ((hoff 19 (by kernel_rfl)).symm.trans h0_) (by decide)⟩
    refine steps_cons ?_ ?_
    · rintro b a w' ⟨x1, k1, x2, k2, x3, m14_, m17_, m19_, ha, Q_HB, Q_B1, Q_B2, Q_B3, Q_X14_, Q_X17_, Q_X19_⟩ hb_ hon hoff
      refine ⟨_, rfl, fun K hK => ?_⟩
      have e19 : a.tmps[19]? = some (.string sa) := by rw [ha]; exact putSel_on (e := (13, 19, .string sa)) 8 rfl rfl (hon 13 (by kernel_rfl)) rfl
      replace ha := Aside0.mk ha
      have HB := Aside0.mk Q_HB
      have hcv := Lib.run_convert_string_bytes (P := Tryz.prog) w' 9 56 5 sa (u := .string) Tryz.underlying9 Tryz.underlying56 Tryz.underlying5
      have hb2 := (GB.refl w').bytes 5 sa
      refine value_ (w1 := Lib.bytesWorld w' 5 sa) (v := .slice (some ⟨w'.heap.size, 0, none⟩) ia.length (grownCap w' sa.size 0 5)) (by rfl) rfl ?_ ?_
      · rw [← E_ia.out]
        go_simp
      refine hK.out _ _ ⟨w'.heap.size, (grownCap w' sa.size 0 5), x2, k2, x3, (.slice (some ⟨w'.heap.size, 0, none⟩) ia.length (grownCap w' sa.size 0 5)), m17_, m19_, (by rw [ha.out]; exact putSel_upk 9 hb_ rfl rfl rfl), (HB.out.trans hb2), fun _ => (conv_row w' 5 sa ia E_ia.out Q_ia.out L_ia.out), fun h0_ => ⟨Kd.C_below (Q_B2 h0_).1 hb2.b, (Q_B2 h0_).2⟩, fun h0_ => absurd ((hoff 19 (by kernel_rfl)).symm.trans h0_) (by decide), fun _ => rfl, Q_X17_, fun h0_ => absurd ((hoff 19 (by kernel_rfl)).symm.trans h0_) (by decide)⟩
    refine steps_cons ?_ ?_
    · rintro b a w' ⟨x1, k1, x2, k2, x3, m14_, m17_, m19_, ha, Q_HB, Q_B1, Q_B2, Q_B3, Q_X14_, Q_X17_, Q_X19_⟩ hb_ hon hoff
      refine ⟨_, rfl, fun K hK => ?_⟩
      have e21 : a.tmps[21]? = some (.pointer (some ⟨gB, 1, none⟩)) := by rw [ha]; exact (putSel_off rfl).trans rfl
      replace ha := Aside0.mk ha
      have HB := Aside0.mk Q_HB
      obtain ⟨cb0, cb1⟩ := box_cells (HBB.out.below HB.out.b)
      refine value_ (w1 := w') (v := .string sb) (by rfl) rfl ?_ ?_
      · go_simp
        (try simp only [i64_w])
        try rfl
      refine hK.out _ _ ⟨x1, k1, x2, k2, x3, m14_, m17_, m19_, (by rw [ha.out]; exact putSel_upk 10 hb_ rfl rfl rfl), Q_HB, Q_B1, fun h0_ => absurd ((hoff 17 (by kernel_rfl)).symm.trans h0_) (by decide), fun h0_ => absurd ((hoff 19 (by kernel_rfl)).symm.trans h0_) (by decide), Q_X14_, fun h0_ => absurd ((hoff 17 (by kernel_rfl)).symm.trans h0_) (by decide), fun h0_ => absurd ((hoff 19 (by kernel_rfl)).symm.trans h0_) (by decide)⟩
    refine steps_cons ?_ ?_
    · rintro b a w' ⟨x1, k1, x2, k2, x3, m14_, m17_, m19_, ha, Q_HB, Q_B1, Q_B2, Q_B3, Q_X14_, Q_X17_, Q_X19_⟩ hb_ hon hoff
      refine ⟨_, rfl, fun K hK => ?_⟩
      have e22 : a.tmps[22]? = some (.string sb) := by rw [ha]; exact putSel_on (e := (16, 22, .string sb)) 10 rfl rfl (hon 16 (by kernel_rfl)) rfl
      replace ha := Aside0.mk ha
      have HB := Aside0.mk Q_HB
      have hcv := Lib.run_convert_string_bytes (P := Tryz.prog) w' 9 56 5 sb (u := .string) Tryz.underlying9 Tryz.underlying56 Tryz.underlying5
      have hb2 := (GB.refl w').bytes 5 sb
      refine value_ (w1 := Lib.bytesWorld w' 5 sb) (v := .slice (some ⟨w'.heap.size, 0, none⟩) ib.length (grownCap w' sb.size 0 5)) (by rfl) rfl ?_ ?_
      · rw [← E_ib.out]
        go_simp
      refine hK.out _ _ ⟨x1, k1, w'.heap.size, (grownCap w' sb.size 0 5), x3, m14_, (.slice (some ⟨w'.heap.size, 0, none⟩) ib.length (grownCap w' sb.size 0 5)), m19_, (by rw [ha.out]; exact putSel_upk 11 hb_ rfl rfl rfl), (HB.out.trans hb2), fun h0_ => ⟨Kd.C_below (Q_B1 h0_).1 hb2.b, (Q_B1 h0_).2⟩, fun _ => (conv_row w' 5 sb ib E_ib.out Q_ib.out L_ib.out), fun h0_ => absurd ((hoff 19 (by kernel_rfl)).symm.trans h0_) (by decide), Q_X14_, fun _ => rfl, fun h0_ => absurd ((hoff 19 (by kernel_rfl)).symm.trans h0_) (by decide)⟩
    refine steps_cons ?_ ?_
    · rintro b a w' ⟨x1, k1, x2, k2, x3, m14_, m17_, m19_, ha, Q_HB, Q_B1, Q_B2, Q_B3, Q_X14_, Q_X17_, Q_X19_⟩ hb_ hon hoff
      refine ⟨_, rfl, fun K hK => ?_⟩
      have e20 : a.tmps[20]? = some (m14_) := by rw [ha]; exact putSel_on (e := (14, 20, m14_)) 9 rfl rfl (hon 14 (by kernel_rfl)) rfl
      rw [Q_X14_ (hon 14 (by kernel_rfl))] at e20
      have e23 : a.tmps[23]? = some (m17_) := by rw [ha]; exact putSel_on (e := (17, 23, m17_)) 11 rfl rfl (hon 17 (by kernel_rfl)) rfl
      rw [Q_X17_ (hon 17 (by kernel_rfl))] at e23
      replace ha := Aside0.mk ha
      have HB := Aside0.mk Q_HB
      have B1 := Aside0.mk (Q_B1 (hon 14 (by kernel_rfl)))
      have B2 := Aside0.mk (Q_B2 (hon 17 (by kernel_rfl)))
      refine goes_ Tryz.func80 (by kernel_rfl) rfl #[.slice (some ⟨x1, 0, none⟩) ia.length k1, .slice (some ⟨x2, 0, none⟩) ib.length k2] (by rfl) rfl rfl (by first | (simp only [List.map_toArray, List.map_cons, List.map_nil, Act.eval, Array.getD_eq_getD_getElem?, Option.getD_some, e20, e23]; done) | (simp only [List.map_toArray, List.map_cons, List.map_nil, Act.eval, Array.getD_eq_getD_getElem?, Option.getD_some, e20, e23]; rfl)) ?_
      refine (HR3.out w' _ _ _ _ B1.out B2.out).mono ?_
      rintro e w2 ⟨rfl, hb2⟩
      refine ⟨_, rfl, ?_⟩
      refine hK.out _ _ ⟨x1, k1, x2, k2, x3, m14_, m17_, m19_, (by rw [ha.out]; exact putSel_upk 12 hb_ rfl rfl rfl), (HB.out.trans hb2), fun _ => ⟨Kd.C_below B1.out.1 hb2.b, B1.out.2⟩, fun _ => ⟨Kd.C_below B2.out.1 hb2.b, B2.out.2⟩, fun h0_ => absurd ((hoff 19 (by kernel_rfl)).symm.trans h0_) (by decide), Q_X14_, Q_X17_, fun h0_ => absurd ((hoff 19 (by kernel_rfl)).symm.trans h0_) (by decide)⟩
    refine steps_cons ?_ ?_
    · rintro b a w' ⟨x1, k1, x2, k2, x3, m14_, m17_, m19_, ha, Q_HB, Q_B1, Q_B2, Q_B3, Q_X14_, Q_X17_, Q_X19_⟩ hb_ hon hoff
      refine ⟨_, rfl, fun K hK => ?_⟩
      have e10 : a.tmps[10]? = some (.int .i64 r1) := by rw [ha]; exact putSel_on (e := (4, 10, .int .i64 r1)) 2 rfl rfl (hon 4 (by kernel_rfl)) rfl
      have e17 : a.tmps[17]? = some (.int .i64 r2) := by rw [ha]; exact putSel_on (e := (11, 17, .int .i64 r2)) 7 rfl rfl (hon 11 (by kernel_rfl)) rfl
      have e24 : a.tmps[24]? = some (.int .i64 r3) := by rw [ha]; exact putSel_on (e := (18, 24, .int .i64 r3)) 12 rfl rfl (hon 18 (by kernel_rfl)) rfl
      replace ha := Aside0.mk ha
      have HB := Aside0.mk Q_HB
      have B1 := Aside0.mk (Q_B1 (hon 14 (by kernel_rfl)))
      have B2 := Aside0.mk (Q_B2 (hon 17 (by kernel_rfl)))
      have hb2 := (GB.refl w').alloc (.cells #[.int .i64 r1, .int .i64 r2, .int .i64 r3] 3)
      refine value_ (w1 := w'.alloc (.cells #[.int .i64 r1, .int .i64 r2, .int .i64 r3] 3)) (v := .slice (some ⟨w'.heap.size, 0, none⟩) 3 3) (by rfl) rfl ?_ ?_
      · go_simp
        try rfl
      refine hK.out _ _ ⟨x1, k1, x2, k2, w'.heap.size, m14_, m17_, (.slice (some ⟨w'.heap.size, 0, none⟩) 3 3), (by rw [ha.out]; exact putSel_upk 13 hb_ rfl rfl rfl), (HB.out.trans hb2), fun _ => ⟨Kd.C_below B1.out.1 hb2.b, B1.out.2⟩, fun _ => ⟨Kd.C_below B2.out.1 hb2.b, B2.out.2⟩, fun _ => (alloc_intsV w' 3 [r1, r2, r3] (by simp)), Q_X14_, Q_X17_, fun _ => rfl⟩
    refine steps_cons ?_ ?_
    · rintro b a w' ⟨x1, k1, x2, k2, x3, m14_, m17_, m19_, ha, Q_HB, Q_B1, Q_B2, Q_B3, Q_X14_, Q_X17_, Q_X19_⟩ hb_ hon hoff
      refine ⟨_, rfl, fun K hK => ?_⟩
      have e25 : a.tmps[25]? = some (m19_) := by rw [ha]; exact putSel_on (e := (19, 25, m19_)) 13 rfl rfl (hon 19 (by kernel_rfl)) rfl
      rw [Q_X19_ (hon 19 (by kernel_rfl))] at e25
      replace ha := Aside0.mk ha
      have HB := Aside0.mk Q_HB
      have B1 := Aside0.mk (Q_B1 (hon 14 (by kernel_rfl)))
      have B2 := Aside0.mk (Q_B2 (hon 17 (by kernel_rfl)))
      have B3 := Aside0.mk (Q_B3 (hon 19 (by kernel_rfl)))
      refine goes_ Tryz.func77 (by kernel_rfl) rfl #[.slice (some ⟨x3, 0, none⟩) 3 3] (by rfl) rfl rfl (by first | (simp only [List.map_toArray, List.map_cons, List.map_nil, Act.eval, Array.getD_eq_getD_getElem?, Option.getD_some, e25]; done) | (simp only [List.map_toArray, List.map_cons, List.map_nil, Act.eval, Array.getD_eq_getD_getElem?, Option.getD_some, e25]; rfl)) ?_
      refine (HR4.out w' _ B3.out).mono ?_
      rintro e w2 ⟨rfl, hb2⟩
      refine ⟨_, rfl, ?_⟩
      refine hK.out _ _ ⟨x1, k1, x2, k2, x3, m14_, m17_, m19_, (by rw [ha.out]; exact putSel_upk 14 hb_ rfl rfl rfl), (HB.out.trans hb2), fun _ => ⟨Kd.C_below B1.out.1 hb2.b, B1.out.2⟩, fun _ => ⟨Kd.C_below B2.out.1 hb2.b, B2.out.2⟩, fun _ => (Kd.C_below B3.out hb2.b), Q_X14_, Q_X17_, Q_X19_⟩
    refine steps_cons ?_ ?_
    · rintro b a w' ⟨x1, k1, x2, k2, x3, m14_, m17_, m19_, ha, Q_HB, Q_B1, Q_B2, Q_B3, Q_X14_, Q_X17_, Q_X19_⟩ hb_ hon hoff
      refine ⟨_, rfl, fun K hK => ?_⟩
      have e26 : a.tmps[26]? = some (.int .i64 rr) := by rw [ha]; exact putSel_on (e := (20, 26, .int .i64 rr)) 14 rfl rfl (hon 20 (by kernel_rfl)) rfl
      replace ha := Aside0.mk ha
      have HB := Aside0.mk Q_HB
      have B1 := Aside0.mk (Q_B1 (hon 14 (by kernel_rfl)))
      have B2 := Aside0.mk (Q_B2 (hon 17 (by kernel_rfl)))
      have B3 := Aside0.mk (Q_B3 (hon 19 (by kernel_rfl)))
      refine value_ (w1 := w') (v := .int .i64 rr) (by rfl) rfl ?_ ?_
      · go_simp
        (try simp only [i64_w])
        try rfl
      refine hK.out _ _ ⟨x1, k1, x2, k2, x3, m14_, m17_, m19_, (by rw [ha.out]; exact putSel_upk 15 hb_ rfl rfl rfl), Q_HB, Q_B1, Q_B2, Q_B3, Q_X14_, Q_X17_, Q_X19_⟩
    exact steps_nil
  rintro b a w' hall ⟨x1, k1, x2, k2, x3, m14_, m17_, m19_, ha, Q_HB, Q_B1, Q_B2, Q_B3, Q_X14_, Q_X17_, Q_X19_⟩
  clear HB
  have hb1_ := hall 1 (by kernel_rfl)
  have hb3_ := hall 3 (by kernel_rfl)
  have hb4_ := hall 4 (by kernel_rfl)
  have hb6_ := hall 6 (by kernel_rfl)
  have hb7_ := hall 7 (by kernel_rfl)
  have hb9_ := hall 9 (by kernel_rfl)
  have hb10_ := hall 10 (by kernel_rfl)
  have hb11_ := hall 11 (by kernel_rfl)
  have hb13_ := hall 13 (by kernel_rfl)
  have hb14_ := hall 14 (by kernel_rfl)
  have hb16_ := hall 16 (by kernel_rfl)
  have hb17_ := hall 17 (by kernel_rfl)
  have hb18_ := hall 18 (by kernel_rfl)
  have hb19_ := hall 19 (by kernel_rfl)
  have hb20_ := hall 20 (by kernel_rfl)
  have hb21_ := hall 21 (by kernel_rfl)
  subst ha
  obtain rfl := Q_X14_ hb14_
  obtain rfl := Q_X17_ hb17_
  obtain rfl := Q_X19_ hb19_
  simp only [putSel, hb1_, hb3_, hb4_, hb6_, hb7_, hb9_, hb10_, hb11_, hb13_, hb14_, hb16_, hb17_, hb18_, hb19_, hb20_, hb21_, if_true, Act.put, List.setIfInBounds_toArray, List.set_cons_zero, List.set_cons_succ]
  have HB := Aside0.mk Q_HB
  clear Q_HB
  have B1 := Aside0.mk (Q_B1 hb14_)
  clear Q_B1
  have B2 := Aside0.mk (Q_B2 hb17_)
  clear Q_B2
  have B3 := Aside0.mk (Q_B3 hb19_)
  clear Q_B3
  clear hall hb1_ hb3_ hb4_ hb6_ hb7_ hb9_ hb10_ hb11_ hb13_ hb14_ hb16_ hb17_ hb18_ hb19_ hb20_ hb21_
  go_wp2_with fail
  go_ret
  subst hGA
  exact ⟨rfl, HWD.out.trans HB.out⟩
/-- In the print's own form. -/
theorem version_Compare.calls (A0_0 : Option Addr) (c0_0 : Nat) (l0_0 : List Int) (a0_1 : ByteArray) (A1_0 : Option Addr) (c1_0 : Nat) (l1_0 : List Int) (a1_1 : ByteArray) (r : Int) (w : World) (hr0_0 : Kd.C (Kd.int .i64) w A0_0 l0_0.length l0_0) (hc0_0 : l0_0.length ≤ c0_0) (hr1_0 : Kd.C (Kd.int .i64) w A1_0 l1_0.length l1_0) (hc1_0 : l1_0.length ≤ c1_0) (h : version_Compare.f l0_0 a0_1 l1_0 a1_1 = some r) :
    Calls Tryz.prog 45 #[.agg #[.slice A0_0 l0_0.length c0_0, .string a0_1], .agg #[.slice A1_0 l1_0.length c1_0, .string a1_1]] w fun e w' => e = .returned (.int .i64 r) ∧ Below w.heap.size w w' := by
  unfold version_Compare.f at h
  split at h
  · rename_i hh
    cases h
    exact (Compare_G A0_0 A1_0 c0_0 c1_0 l0_0 l1_0 a0_1 a1_1 w hr0_0 hc0_0 hr1_0 hc1_0 hh.1 hh.2.1 hh.2.2.1 hh.2.2.2).mono fun _ _ h => ⟨h.1, h.2.b⟩
  · cases h
end Go.Proofs.YtnbmdecehlljcaaGreatDoor
namespace Go.Proofs.YtnbmdecehlljcaaGreatDoor
open Go.Shelf Go.RowKit Go.Sort Go.Lib Go.Proofs.YtnbmdecehlljcaaGreatDoorW.PrintWords Go.Proofs.YtnbmdecehlljcaaGreatDoorW.PrintMore
set_option linter.unusedVariables false
set_option linter.unusedSimpArgs false
attribute [local go_sem] isSome_setCellV
structure VBox (W : World) (g : Nat) (A : Option Addr) (c : Nat) (l : List Int) (s : ByteArray) : Prop where
  b : W.heap[g]? = some (.cells #[.slice A l.length c, .string s] 24 (0, 0))
  r : Kd.C (Kd.int .i64) W A l.length l
  c : l.length ≤ c
theorem VBox.below {W W' : World} {g : Nat} {A : Option Addr} {c : Nat} {l : List Int} {s : ByteArray} (h : VBox W g A c l s) (hb : Below W.heap.size W W') : VBox W' g A c l s := ⟨(hb.block _ (Array.getElem?_eq_some_iff.1 h.b).1).trans h.b, Kd.C_below h.r hb, h.c⟩
theorem VBox.cells {W : World} {g : Nat} {A : Option Addr} {c : Nat} {l : List Int} {s : ByteArray} (h : VBox W g A c l s) : W.cell? ⟨g, 0, none⟩ = some (.slice A l.length c) ∧ W.cell? ⟨g, 1, none⟩ = some (.string s) := by
  have := h.b
  exact ⟨by simp [World.cell?, this], by simp [World.cell?, this]⟩
theorem box_new {W : World} {A : Option Addr} {c : Nat} {l : List Int} {s : ByteArray} (hr : Kd.C (Kd.int .i64) W A l.length l) (hc : l.length ≤ c) : VBox (W.alloc (.cells #[.slice A l.length c, .string s] 24)) W.heap.size A c l s :=
  ⟨heap_alloc_new W _, Kd.C_alloc hr _, hc⟩
set_option maxRecDepth 100000 in
set_option maxHeartbeats 4000000 in
theorem Texts_G (s t : ByteArray) (hs : s.size < 1000000) (ht : t.size < 1000000) (w : World) (hT : VTabs w) (x y : List Int × List UInt8) (hx : parseV s.data.toList = some x) (hy : parseV t.data.toList = some y) :
    Calls Tryz.prog 32 #[.string s, .string t] w fun e w' => e = .returned (.tuple #[.int .i64 (cmpV x.1 x.2 y.1 y.2), .bool true]) ∧ GB w w' := by
  have hbx : x.1.length ≤ 8 ∧ x.2.length ≤ 16 := by
    have := (parseV_some (ns := x.1) (t := x.2) hx).1
    unfold okV tagB at this
    simp at this
    omega
  have hby : y.1.length ≤ 8 ∧ y.2.length ≤ 16 := by
    have := (parseV_some (ns := y.1) (t := y.2) hy).1
    unfold okV tagB at this
    simp at this
    omega
  have HT := Aside0.mk hT
  obtain ⟨xl, xt⟩ := x
  obtain ⟨yl, yt⟩ := y
  simp only at hbx hby ⊢
  have HX : Aside0 (∀ W, VTabs W → Calls Tryz.prog 35 #[.string s] W fun e w' => ∃ v, e = .returned (.tuple #[.agg #[v, .string ⟨xt.toArray⟩], .int .i64 0]) ∧ Kd.R (Kd.int .i64) 3 w' W.heap.size (fun _ => True) v xl ∧ GB W w') := ⟨fun W h => Parse_G s (by omega) W h (xl, xt) hx⟩
  have HY : Aside0 (∀ W, VTabs W → Calls Tryz.prog 35 #[.string t] W fun e w' => ∃ v, e = .returned (.tuple #[.agg #[v, .string ⟨yt.toArray⟩], .int .i64 0]) ∧ Kd.R (Kd.int .i64) 3 w' W.heap.size (fun _ => True) v yl ∧ GB W w') := ⟨fun W h => Parse_G t (by omega) W h (yl, yt) hy⟩
  have HC : Aside0 (∀ W A0 c0 A1 c1, Kd.C (Kd.int .i64) W A0 xl.length xl → xl.length ≤ c0 → Kd.C (Kd.int .i64) W A1 yl.length yl → yl.length ≤ c1 → Calls Tryz.prog 45 #[.agg #[.slice A0 xl.length c0, .string ⟨xt.toArray⟩], .agg #[.slice A1 yl.length c1, .string ⟨yt.toArray⟩]] W fun e w' => e = .returned (.int .i64 (cmpV xl xt yl yt)) ∧ GB W w') :=
    ⟨fun W A0 c0 A1 c1 h1 h2 h3 h4 => Compare_G A0 A1 c0 c1 xl yl ⟨xt.toArray⟩ ⟨yt.toArray⟩ W h1 h2 h3 h4 (by omega) (by omega) (by simp [ByteArray.size]; omega) (by simp [ByteArray.size]; omega)⟩
  clear hT hx hy hbx hby
  generalize cmpV xl xt yl yt = r at *
  generalize (⟨xt.toArray⟩ : ByteArray) = xs at *
  generalize (⟨yt.toArray⟩ : ByteArray) = ys at *
  go_enter Tryz.func32, Tryz.ntmps32
  go_wp2_with fail
  refine (HX.out _ HT.out).mono ?_
  rintro e w1 ⟨v, rfl, hv, hb⟩
  obtain ⟨A, c, rfl⟩ := Kd.R_slice hv
  obtain ⟨_, hlc, hC⟩ := Kd.R_reads' hv
  have HX1 : Aside0 (VBox (w1.alloc (.cells #[.slice A xl.length c, .string xs] 24)) w1.heap.size A c xl xs) := ⟨box_new hC hlc⟩
  have HB1 : Aside0 (GB w (w1.alloc (.cells #[.slice A xl.length c, .string xs] 24))) := ⟨hb.alloc _⟩
  clear hv hlc hC hb
  go_wp2_with fail
  generalize w1.alloc (.cells #[.slice A xl.length c, .string xs] 24) = W1 at *
  generalize w1.heap.size = g1 at *
  refine (HY.out _ (HT.out.below HB1.out.b)).mono ?_
  rintro e w2 ⟨v, rfl, hv, hb⟩
  obtain ⟨A2, c2, rfl⟩ := Kd.R_slice hv
  obtain ⟨_, hlc, hC⟩ := Kd.R_reads' hv
  have HX2 : Aside0 (VBox (w2.alloc (.cells #[.slice A2 yl.length c2, .string ys] 24)) w2.heap.size A2 c2 yl ys) := ⟨box_new hC hlc⟩
  have HX3 : Aside0 (VBox (w2.alloc (.cells #[.slice A2 yl.length c2, .string ys] 24)) g1 A c xl xs) := ⟨(HX1.out.below hb.b).below ((GB.refl _).alloc _).b⟩
  have HB2 : Aside0 (GB w (w2.alloc (.cells #[.slice A2 yl.length c2, .string ys] 24))) := ⟨(HB1.out.trans hb).alloc _⟩
  clear hv hlc hC hb HX1 HB1 HX HY
  obtain ⟨a0, a1⟩ := HX3.out.cells
  obtain ⟨b0, b1⟩ := HX2.out.cells
  generalize hW2 : w2.alloc (.cells #[.slice A2 yl.length c2, .string ys] 24) = W2 at *
  generalize hg2 : w2.heap.size = g2 at *
  go_wp2_with fail
  refine (HC.out _ _ _ _ _ HX3.out.r HX3.out.c HX2.out.r HX2.out.c).mono ?_
  rintro e w3 ⟨rfl, hb⟩
  have HB3 := Aside0.mk (HB2.out.trans hb)
  clear hb
  go_wp2_with fail
  go_ret2
  exact ⟨rfl, HB3.out⟩
theorem Sort1_G (s t : ByteArray) (hs : s.size < 1000000) (ht : t.size < 1000000) (w : World) (hT : VTabs w) (ks : okT s = true) (kt : okT t = true) :
    Calls Tryz.prog 69 #[.string s, .string t] w fun e w' => e = .returned (.int .i64 (cfT s t)) ∧ GB w w' := by
  obtain ⟨x, hx⟩ := Option.isSome_iff_exists.1 ks
  obtain ⟨y, hy⟩ := Option.isSome_iff_exists.1 kt
  have H := Aside0.mk (Texts_G s t hs ht w hT x y hx hy)
  have e : cfT s t = cmpV x.1 x.2 y.1 y.2 := by unfold cfT; rw [hx, hy]; rfl
  rw [e]
  generalize cmpV x.1 x.2 y.1 y.2 = r at *
  clear hx hy e ks kt hT
  go_enter Tryz.func69, Tryz.ntmps69
  go_wp2_with fail
  refine (H.out).mono ?_
  rintro e w3 ⟨rfl, hb⟩
  have HB := Aside0.mk hb
  clear hb
  go_wp2_with fail
  go_ret
  exact ⟨rfl, HB.out⟩
end Go.Proofs.YtnbmdecehlljcaaGreatDoor
namespace Go.Proofs.YtnbmdecehlljcaaGreatDoor
open Go.Shelf Go.RowKit Go.Sort Go.Lib Go.Proofs.YtnbmdecehlljcaaGreatDoorW.PrintWords Go.Proofs.YtnbmdecehlljcaaGreatDoorW.PrintMore
set_option linter.unusedVariables false
set_option linter.unusedSimpArgs false
section
variable {α : Type} [Inhabited α] (enc : α → Value)
theorem holds_of_blockG {w : World} {g : Nat} {cur : Array Value} {e : TypeId} {ss : List α} (hb : w.heap[g]? = some (.cells cur e (0, 0))) (ht : cur.toList.take ss.length = ss.map enc) : Holds enc w g 0 ss.toArray := by
  intro j hj
  have hj' : j < ss.length := by simpa using hj
  refine ⟨?_, by simp [World.frozen?, hb]⟩
  have h1 : (cur.toList.take ss.length)[j]? = (ss.map enc)[j]? := by rw [ht]
  rw [List.getElem?_take_of_lt hj'] at h1
  simp only [World.cell?, hb, Nat.zero_add]
  simp only [Option.isSome_none, Bool.false_eq_true, if_false]
  rw [← Array.getElem?_toList, h1]
  simp [hj']
theorem heap_sortedG {w : World} {g n : Nat} {os : Array Obj} {cur : Array Value} {e : TypeId} {fr : Nat × Nat} (d : Array α) (hb : w.heap[g]? = some (.cells cur e fr)) :
    (grow (putRow enc (Sort.ahead w n) g 0 d) os).heap[g]? = some (.cells (putCells enc 0 d cur) e fr) := by
  have hg : g < w.heap.size := (Array.getElem?_eq_some_iff.1 hb).1
  rw [heap_grow_old _ _ (by simpa using hg)]
  simp [putRow, mapBlock, Sort.ahead, Array.getElem?_modify, hb, onCells]
theorem grownBy_sortedG {w : World} {g n : Nat} {os : Array Obj} (d : Array α) : w.grownBy (grow (putRow enc (Sort.ahead w n) g 0 d) os) (some g) := by
  refine ⟨rfl, rfl, rfl, by simp, fun k hk hne => ?_⟩
  rw [heap_grow_old _ _ (by simpa using hk)]
  have : g ≠ k := fun e => hne (by rw [e])
  simp [putRow, mapBlock, Sort.ahead, Array.getElem?_modify, this]
theorem take_putCellsG (cur : Array Value) (ts : List α) (h : ts.length ≤ cur.size) : (putCells enc 0 ts.toArray cur).toList.take ts.length = ts.map enc := by
  apply List.ext_getElem?
  intro j
  by_cases hj : j < ts.length
  · rw [List.getElem?_take_of_lt hj, Array.getElem?_toList]
    simp [putCells, hj, show j < cur.size by omega]
  · rw [List.getElem?_take_eq_none (by omega), List.getElem?_eq_none (by simp; omega)]
theorem ownsRow_sortedG {w : World} {base g cap n : Nat} {e : TypeId} {os : Array Obj} {cur : Array Value} {ss ts : List α} (hl : ts.length = ss.length) (hbase : base ≤ g) (hb : w.heap[g]? = some (.cells cur e (0, 0)))
    (h1 : ss.length ≤ cap) (h2 : cap ≤ maxLen) (h3 : cur.size = cap * 1) :
    (grow (putRow enc (Sort.ahead w n) g 0 ts.toArray) os).ownsRow base e 1 (.slice (some ⟨g, 0, none⟩) ss.length cap) ss.length (ts.map enc) :=
  ⟨by simp [hl], .inr ⟨g, cap, _, rfl, hbase, heap_sortedG enc _ hb, h1, h2, by simp [putCells, h3], by rw [Nat.mul_one, ← hl]; exact take_putCellsG enc cur ts (by omega)⟩⟩
end
/-- The texts that are versions, and not too long. -/
def VText : Type := { s : ByteArray // okT s = true ∧ s.size < 1000000 }
theorem okT_one : okT ⟨(printV [1] []).toArray⟩ = true := by
  unfold okT
  show (parseV (printV [1] [])).isSome = true
  rw [parseV_print (by decide)]
  rfl
instance : Inhabited VText := ⟨⟨⟨(printV [1] []).toArray⟩, okT_one, by
  have : printV [1] [] = decDigits 1 := by simp [printV, joinOn]
  rw [this, decDigits_one (by omega)]
  simp [ByteArray.size]⟩⟩
def encV (s : VText) : Value := .string s.1
def cfV (s t : VText) : Int := cfT s.1 t.1
theorem ltV (s t : VText) : ltOf cfV s t = decide (cfT s.1 t.1 < 0) := rfl
theorem cfT_zero {s t : ByteArray} (hs : okT s = true) (ht : okT t = true) (h : cfT s t = 0) : s = t := by
  obtain ⟨x, hx⟩ := Option.isSome_iff_exists.1 hs
  obtain ⟨y, hy⟩ := Option.isSome_iff_exists.1 ht
  unfold cfT at h
  rw [hx, hy] at h
  have h2 := (cmpV_zero x.1 x.2 y.1 y.2).1 h
  have e : x = y := Prod.ext h2.1 h2.2
  subst e
  have := parseV_inj hx hy
  exact ByteArray.ext (Array.ext' this)
theorem cfT_neg (s t : ByteArray) : cfT t s = - cfT s t := cmpV_neg _ _ _ _
theorem swoV : SWO (ltOf cfV) where
  irrefl x := by
    rw [ltV]
    have := (cmpV_zero (numsOf (parseV x.1.data.toList)) (tagOf (parseV x.1.data.toList)) (numsOf (parseV x.1.data.toList)) (tagOf (parseV x.1.data.toList))).2 ⟨rfl, rfl⟩
    have h : cfT x.1 x.1 = 0 := this
    rw [h]
    decide
  trans x y z h1 h2 := by
    rw [ltV] at *
    simp only [decide_eq_true_eq] at *
    exact (cmpV_trans _ _ _ _ _ _).2.1 h1 (show cfT y.1 z.1 ≤ 0 by omega)
  ntrans x y z h1 h2 := by
    rw [ltV] at *
    simp only [decide_eq_false_iff_not] at *
    have a := cfT_neg x.1 y.1
    have b := cfT_neg y.1 z.1
    have c := cfT_neg x.1 z.1
    have : cfT z.1 x.1 ≤ 0 := (cmpV_trans _ _ _ _ _ _).1 (show cfT z.1 y.1 ≤ 0 by omega) (show cfT y.1 x.1 ≤ 0 by omega)
    omega
theorem totV (x y : VText) (h1 : ltOf cfV x y = false) (h2 : ltOf cfV y x = false) : x = y := by
  rw [ltV] at *
  simp only [decide_eq_false_iff_not] at *
  have a := cfT_neg x.1 y.1
  exact Subtype.ext (cfT_zero x.2.1 y.2.1 (by omega))
theorem sortV_map (l : List VText) : (l.mergeSort fun x y => !(ltOf cfV) y x).map (·.1) = sortT (l.map (·.1)) := by
  unfold sortT
  refine List.map_mergeSort (fun a _ b _ => ?_)
  rw [ltV]
  have a1 := cfT_neg a.1 b.1
  rw [Bool.eq_iff_iff]
  simp
  omega
theorem sort_call (w : World) (hT : VTabs w) (l : List VText) (hl : l.length ≤ 1000000) (W : World) (v : Value) (hW : Below w.heap.size w W) (ho : W.ownsRow w.heap.size 9 1 v l.length (l.map encV)) :
    Calls Tryz.prog 68 #[v, .func (.func 69) #[] #[]] W fun e w' => e = .returned (.tuple #[]) ∧ w'.ownsRow w.heap.size 9 1 v l.length ((l.mergeSort fun x y => !(ltOf cfV) y x).map encV) ∧ Below w.heap.size W w' := by
  by_cases h0 : l.length = 0
  · have hc : l = [] := List.length_eq_zero_iff.1 h0
    have hv : ∃ p cap, v = .slice p 0 cap := by
      rcases ho.2 with ⟨rfl, _⟩ | ⟨g, cap, cur, rfl, _⟩
      · exact ⟨_, _, rfl⟩
      · rw [h0]; exact ⟨_, _, rfl⟩
    obtain ⟨p, cap, rfl⟩ := hv
    refine (Tryz.slices_SortFunc_none (α := VText) p cap _ W).mono ?_
    rintro e w' ⟨rfl, rfl⟩
    refine ⟨rfl, ?_, Below.refl _ _⟩
    subst hc
    simpa using ho
  · rcases ho.2 with ⟨_, h⟩ | ⟨g, cap, cur, rfl, hb, hh, h1, h2, h3, h4⟩
    · exact absurd h h0
    have eg : ∀ args w, (callFunc 69 args).run Tryz.prog w = .ok (.enter 69 args) w := enters_of Tryz.func69 (by kernel_rfl) rfl
    have hsz := hW.size
    have hs := Tryz.slices_SortFunc_total (α := VText) encV (fun _ => rfl) cfV swoV 69 #[] g 0 cap l.toArray W eg
      (fun m os dk hdk x y => (Sort1_G x.1 y.1 x.2.2 y.2.2 _ (hT.below (hW.trans ((Below.refl _ _).grown (grownBy_sortedG encV dk) hsz (fun k hk => by cases hk; exact hb)))) x.2.1 y.2.1).mono fun _ _ h => ⟨h.1, h.2.grown⟩)
      (holds_of_blockG encV hh (by rw [← h4, Nat.mul_one])) (lt_of_block hh) (by simp; omega) totV
    simp only [List.size_toArray] at hs
    refine hs.mono ?_
    rintro e w' ⟨rfl, n, os, rfl⟩
    refine ⟨rfl, ?_, ?_⟩
    · exact ownsRow_sortedG encV (by simp [List.length_mergeSort]) hb hh h1 h2 h3
    · exact (Below.refl _ _).grown (grownBy_sortedG encV _) hsz (fun k hk => by cases hk; exact hb)
theorem own_low {w : World} {b b' e z n : Nat} {v : Value} {xs : List Value} (h : w.ownsRow b e z v n xs) (hb : b' ≤ b) : w.ownsRow b' e z v n xs := by
  refine ⟨h.1, ?_⟩
  rcases h.2 with h2 | ⟨g, cap, cur, rfl, hg, r⟩
  · exact .inl h2
  · exact .inr ⟨g, cap, cur, rfl, by omega, r⟩
/-- The texts, as versions. -/
def vtexts : (l : List ByteArray) → (∀ s ∈ l, okT s = true ∧ s.size < 1000000) → List VText
  | [], _ => []
  | s :: r, h => ⟨s, h s (List.mem_cons_self ..)⟩ :: vtexts r (fun x hx => h x (List.mem_cons_of_mem _ hx))
theorem vtexts_map : ∀ (l : List ByteArray) (h : ∀ s ∈ l, okT s = true ∧ s.size < 1000000), (vtexts l h).map (·.1) = l
  | [], _ => rfl
  | s :: r, h => by
    show s :: (vtexts r _).map (·.1) = _
    rw [vtexts_map r]
theorem sort_texts (w : World) (hT : VTabs w) (l : List ByteArray) (hl : l.length ≤ 1000000) (hs : ∀ s ∈ l, s.size < 1000000) (hok : l.all okT = true) (W : World) (v : Value) (hW : Below w.heap.size w W) (ho : W.ownsRow w.heap.size 9 1 v l.length (l.map Value.string)) :
    Calls Tryz.prog 68 #[v, .func (.func 69) #[] #[]] W fun e w' => e = .returned (.tuple #[]) ∧ w'.ownsRow w.heap.size 9 1 v (sortT l).length ((sortT l).map Value.string) ∧ Below w.heap.size W w' := by
  have hh : ∀ s ∈ l, okT s = true ∧ s.size < 1000000 := fun s h => ⟨List.all_eq_true.1 hok s h, hs s h⟩
  have hm := vtexts_map l hh
  generalize vtexts l hh = q at hm
  have e1 : l.length = q.length := by rw [← hm, List.length_map]
  have e2 : l.map Value.string = q.map encV := by rw [← hm, List.map_map]; rfl
  have e3 : (sortT l).map Value.string = (q.mergeSort fun x y => !(ltOf cfV) y x).map encV := by
    rw [← hm, ← sortV_map, List.map_map]
    rfl
  have e4 : (sortT l).length = q.length := by
    unfold sortT
    rw [List.length_mergeSort, e1]
  rw [e3, e4]
  rw [e1, e2] at ho
  exact sort_call w hT q (by omega) W v hW ho
theorem clone_texts (A : Option Addr) (c : Nat) (l : List ByteArray) (hl : l.length ≤ 1000000) (hc : l.length ≤ c) (W : World) (hr : Kd.C Kd.string W A l.length l) :
    Calls Tryz.prog 67 #[.slice A l.length c] W fun e w' => ∃ v', e = .returned v' ∧ w'.ownsRow W.heap.size 9 1 v' l.length (l.map Value.string) ∧ Below W.heap.size W w' := by
  by_cases h0 : 0 < l.length
  · obtain ⟨b, o, rfl, hcell, _⟩ := C_cells hr h0
    refine (Tryz.slices_Clone_string b o l.length c l W (Nat.le_refl _) (by omega) (fun j hj => ?_)).mono ?_
    · have := hcell j l[j] (List.getElem?_eq_getElem hj)
      rw [this]
      simp [List.getD, List.getElem?_eq_getElem hj]
    · rintro e w' ⟨v', he, ho, _, hb'⟩
      exact ⟨v', he, by rwa [List.take_length] at ho, hb'⟩
  · have : l = [] := List.length_eq_zero_iff.1 (by omega)
    subst this
    cases A with
    | none =>
      refine (Tryz.slices_Clone_string_nil 0 c W).mono ?_
      rintro e w' ⟨rfl, rfl⟩
      exact ⟨_, rfl, own_nil _ _ _ _, Below.refl _ _⟩
    | some ad =>
      refine (Tryz.slices_Clone_string_zero ad c W).mono ?_
      rintro e w' ⟨v', he, ho, _, hb'⟩
      exact ⟨v', he, ho, hb'⟩
def SortPost (l : List ByteArray) (w : World) (e : Ending) (w' : World) : Prop := ∃ v0_ : Value, e = .returned (.tuple #[v0_, .int .i64 (if l.all okT then 0 else 130)]) ∧ Kd.R Kd.string 9 w' w.heap.size (fun _ => True) v0_ (if l.all okT then sortT l else []) ∧ Below w.heap.size w w'
set_option maxRecDepth 100000 in
set_option maxHeartbeats 4000000 in
theorem Sort_any (A : Option Addr) (c : Nat) (l : List ByteArray) (w : World) (hr : Kd.C Kd.string w A l.length l) (hc : l.length ≤ c) (hT : VTabs w) (hl : l.length ≤ 1000000) (hs : ∀ s ∈ l, s.size < 1000000) :
    Calls Tryz.prog 36 #[.slice A l.length c] w (SortPost l w) := by
  have HT := Aside0.mk hT
  have HR := Aside0.mk hr
  have HS := Aside0.mk hs
  have HC := Aside0.mk hc
  have HB : Aside0 (Below w.heap.size w w) := ⟨Below.refl _ _⟩
  have HP : Aside0 (∀ (s : ByteArray) W, s.size < 1000000 → VTabs W → Calls Tryz.prog 35 #[.string s] W (ParsePost (parseV s.data.toList) W)) := ⟨fun s W h1 h2 => Parse_any s (by omega) W h2⟩
  have HK : Aside0 (∀ W, Below w.heap.size w W → Calls Tryz.prog 67 #[.slice A l.length c] W fun e w' => ∃ v', e = .returned v' ∧ w'.ownsRow W.heap.size 9 1 v' l.length (l.map Value.string) ∧ Below W.heap.size W w') := ⟨fun W h => clone_texts A c l hl hc W (Kd.C_below hr h)⟩
  have HO : Aside0 (l.all okT = true → ∀ W v, Below w.heap.size w W → W.ownsRow w.heap.size 9 1 v l.length (l.map Value.string) → Calls Tryz.prog 68 #[v, .func (.func 69) #[] #[]] W fun e w' => e = .returned (.tuple #[]) ∧ w'.ownsRow w.heap.size 9 1 v (sortT l).length ((sortT l).map Value.string) ∧ Below w.heap.size W w') := ⟨fun h W v h1 h2 => sort_texts w hT l hl hs h W v h1 h2⟩
  clear hT hr hs hc
  go_enter Tryz.func36, Tryz.ntmps36
  go_wp2_with fail
  go_loopg [10] l.length (fun gg s10 wr => ∃ k : Nat, k ≤ l.length ∧ l.length - k ≤ gg ∧ s10 = .int .i64 k ∧ Aside0 (Below w.heap.size w wr) ∧ Aside0 ((l.take k).all okT = true))
  case atStart => exact ⟨0, Nat.zero_le _, by omega, rfl, HB, ⟨rfl⟩⟩
  case round =>
    clear HB
    obtain ⟨k, hk, hgk, rfl, HB, HA⟩ := hrel
    by_cases hlt : k < l.length
    · have hkz : (k : Int) < l.length := by omega
      have hRk := Kd.C_below HR.out HB.out
      obtain ⟨b, o, rfl, hcell, hbw⟩ := C_cells hRk (by omega)
      have hq := hcell k l[k] (List.getElem?_eq_getElem hlt)
      have hmem : l[k] ∈ l := List.getElem_mem hlt
      have hsz := HS.out _ hmem
      have htk : l.take (k + 1) = l.take k ++ [l[k]] := by rw [List.take_add_one, List.getElem?_eq_getElem hlt]; rfl
      have HTK := Aside0.mk htk
      have HM := Aside0.mk hmem
      clear htk hmem hcell hRk
      generalize l[k] = s at *
      have hP := HP.out s wr hsz (HT.out.below HB.out)
      cases hp : parseV s.data.toList with
      | none =>
        rw [hp] at hP
        have hP2 := Aside0.mk hP
        have hall : l.all okT = false := by
          rw [Bool.eq_false_iff]
          intro h
          have := List.all_eq_true.1 h s HM.out
          unfold okT at this
          rw [hp] at this
          cases this
        have HF := Aside0.mk hall
        clear hP hp hall
        go_wp2_with fail
        refine (hP2.out).mono ?_
        rintro e w2 ⟨v, rfl, hv, hb⟩
        obtain ⟨A2, c2, rfl⟩ := Kd.R_slice hv
        have HB2 := Aside0.mk (HB.out.trans (hb.mono HB.out.size))
        clear hv hb
        simp only [numsOf, tagOf, errOf]
        go_wp2_with fail
        go_ret2
        exact ⟨_, by rw [HF.out]; rfl, by rw [HF.out]; exact Kd.R_nil _ _ _ _ _, HB2.out.alloc HB2.out.size _⟩
      | some x =>
        rw [hp] at hP
        have hP2 := Aside0.mk hP
        have HA2 : Aside0 ((l.take (k + 1)).all okT = true) := ⟨by rw [HTK.out, List.all_append, HA.out]; simp [okT, hp]⟩
        clear hP hp
        go_wp2_with fail
        refine (hP2.out).mono ?_
        rintro e w2 ⟨v, rfl, hv, hb⟩
        obtain ⟨A2, c2, rfl⟩ := Kd.R_slice hv
        have HB2 := Aside0.mk (HB.out.trans (hb.mono HB.out.size))
        clear hv hb
        simp only [numsOf, tagOf, errOf]
        go_wp2_with fail
        go_roundg (l.length - (k + 1))
        case measure => omega
        case rel => exact ⟨k + 1, by omega, by omega, by go_num, ⟨HB2.out.alloc HB2.out.size _⟩, HA2⟩
    · obtain rfl : k = l.length := by omega
      clear hlt
      have hall : l.all okT = true := by have := HA.out; rwa [List.take_length] at this
      have HF := Aside0.mk hall
      replace HO := Aside0.mk (HO.out hall)
      clear hall
      go_wp2_with fail
      refine (HK.out _ HB.out).mono ?_
      rintro e w2 ⟨v, rfl, ho, hb⟩
      have HB2 := Aside0.mk (HB.out.trans (hb.mono HB.out.size))
      have HO1 := Aside0.mk (own_low ho HB.out.size)
      clear ho hb
      go_wp2_with fail
      refine (HO.out _ _ HB2.out HO1.out).mono ?_
      rintro e w3 ⟨rfl, ho, hb⟩
      have HB3 := Aside0.mk (HB2.out.trans hb)
      have HO2 := Aside0.mk ho
      clear ho hb
      go_wp2_with fail
      go_ret2
      exact ⟨_, by rw [HF.out]; rfl, by rw [HF.out]; exact Kd.R_of_own HO2.out (fun _ _ => trivial), HB3.out⟩
theorem version_Sort.calls (A0 : Option Addr) (c0 : Nat) (l0 : List ByteArray) (r1 : List ByteArray) (r2 : Int) (w : World) (hr0 : Kd.C Kd.string w A0 l0.length l0) (hc0 : l0.length ≤ c0) (hT : VTabs w) (h : version_Sort.f l0 = some (r1, r2)) :
    Calls Tryz.prog 36 #[.slice A0 l0.length c0] w fun e w' => ∃ v0_ : Value, e = .returned (.tuple #[v0_, .int .i64 r2]) ∧ Kd.R Kd.string 9 w' w.heap.size (fun _ => True) v0_ r1 ∧ Below w.heap.size w w' := by
  unfold version_Sort.f at h
  split at h
  · rename_i hh
    have hP := Sort_any A0 c0 l0 w hr0 hc0 hT hh.1 hh.2
    cases hq : l0.all okT with
    | true =>
      rw [hq] at h
      simp only [if_true, Option.some.injEq, Prod.mk.injEq] at h
      obtain ⟨rfl, rfl⟩ := h
      refine hP.mono fun e w' ⟨v, h1, h2, h3⟩ => ?_
      rw [hq] at h1 h2
      exact ⟨v, h1, h2, h3⟩
    | false =>
      rw [hq] at h
      simp only [Bool.false_eq_true, if_false, Option.some.injEq, Prod.mk.injEq] at h
      obtain ⟨rfl, rfl⟩ := h
      refine hP.mono fun e w' ⟨v, h1, h2, h3⟩ => ?_
      rw [hq] at h1 h2
      exact ⟨v, h1, h2, h3⟩
  · cases h
end Go.Proofs.YtnbmdecehlljcaaGreatDoor
namespace Go.Proofs.YtnbmdecehlljcaaGreatDoor
open Go.RowKit Go.Lib Go.Proofs.YtnbmdecehlljcaaGreatDoorW.PrintWords Go.Proofs.YtnbmdecehlljcaaGreatDoorW.PrintLast Go.Proofs.YtnbmdecehlljcaaGreatDoorW.PrintMore
set_option linter.unusedVariables false
set_option linter.unusedSimpArgs false
theorem join_joinOn (c : UInt8) : ∀ ps : List (List UInt8), Lib.join ps [c] = joinOn c ps
  | [] => rfl
  | [p] => by rw [join_one]; rfl
  | p :: q :: r => by
    have ih := join_joinOn c (q :: r)
    show _ = p ++ c :: joinOn c (q :: r)
    rw [← ih]
    simp [Lib.join, List.intercalate]
theorem joinOn_len (c : UInt8) : ∀ ps : List (List UInt8), (∀ p ∈ ps, p.length ≤ 9) → (joinOn c ps).length ≤ 10 * ps.length
  | [], _ => by simp [joinOn]
  | [p], h => by have := h p (List.mem_cons_self ..); simp [joinOn]; omega
  | p :: q :: r, h => by
    have ih := joinOn_len c (q :: r) (fun x hx => h x (List.mem_cons_of_mem _ hx))
    have := h p (List.mem_cons_self ..)
    simp only [joinOn, List.length_append, List.length_cons] at *
    omega
def okN (n : Int) : Bool := decide (0 ≤ n) && decide (n ≤ 999999999)
theorem dec_len (u : Nat) (h : u ≤ 999999999) : (decDigits u).length ≤ 9 := by
  have h1 := (decDigits_canon u (by omega)).1
  unfold canonB at h1
  simp only [Bool.and_eq_true, decide_eq_true_eq] at h1
  exact h1.1.2
theorem itoa_nat {n : Int} (h : 0 ≤ n) : Lib.itoa n = decDigits n.toNat := by
  unfold Lib.itoa
  rw [if_neg (by omega)]
theorem wrap_idN {i : Int} (h1 : -9223372036854775808 ≤ i) (h2 : i ≤ 9223372036854775807) : wrap64 i = i := by unfold wrap64; omega
theorem print_l0 (l : List Int) (t : ByteArray) (hl : 1 ≤ l.length ∧ l.length ≤ 8) (htl : t.size ≤ 1000000) : ∀ (d k i : Nat), l.length - i = d → d < k → i ≤ l.length → (l.take i).all okN = true →
    PPrn.version_Print.l0 k ((l.take i).map fun n => (⟨(Lib.itoa n).toArray⟩ : ByteArray)) l (l.length : Int) (i : Int) l t = some (if l.all okN then (⟨(printV l t.data.toList).toArray⟩, 0) else (⟨#[]⟩, 130)) := by
  intro d
  induction d with
  | zero =>
    intro k i hd hk h1 ha
    obtain ⟨k, rfl⟩ : ∃ m, k = m + 1 := ⟨k - 1, by omega⟩
    have e : i = l.length := by omega
    subst e
    rw [List.take_length] at ha ⊢
    simp only [PPrn.version_Print.l0]
    rw [if_neg (by omega), ha, if_pos rfl]
    have hn : ∀ n ∈ l, 0 ≤ n ∧ n ≤ 999999999 := fun n hn => by
      have := List.all_eq_true.1 ha n hn
      unfold okN at this
      simpa using this
    have hmap : (l.map fun n => (⟨(Lib.itoa n).toArray⟩ : ByteArray)).map (·.data.toList) = l.map fun n => decDigits n.toNat := by
      rw [List.map_map]
      refine List.map_congr_left (fun n hn' => ?_)
      show Lib.itoa n = _
      exact itoa_nat (hn n hn').1
    have hj : Lib.join ((l.map fun n => (⟨(Lib.itoa n).toArray⟩ : ByteArray)).map (·.data.toList)) (⟨#[46]⟩ : ByteArray).data.toList = joinOn 46 (l.map fun n => decDigits n.toNat) := by
      rw [hmap]
      exact join_joinOn 46 _
    have hlen := joinOn_len 46 (l.map fun n => decDigits n.toNat) (fun p hp => by
      obtain ⟨n, hn', rfl⟩ := List.mem_map.1 hp
      exact dec_len _ (by have := hn n hn'; omega))
    rw [List.length_map] at hlen
    have hJ : strings_Join.f (l.map fun n => (⟨(Lib.itoa n).toArray⟩ : ByteArray)) (⟨#[46]⟩ : ByteArray) = some ⟨(joinOn 46 (l.map fun n => decDigits n.toNat)).toArray⟩ := by
      unfold strings_Join.f
      rw [hj, if_pos ⟨by rw [List.length_map]; omega, by omega⟩]
    rw [hJ, Option.bind_some, ByteArray.toList_eq]
    by_cases ht : t.data.toList = []
    · rw [if_pos ht]
      unfold printV
      rw [if_pos ht, List.append_nil]
    · have hs : ((⟨(joinOn 46 (l.map fun n => decDigits n.toNat)).toArray⟩ : ByteArray)).size = (joinOn 46 (l.map fun n => decDigits n.toNat)).length := by simp [ByteArray.size]
      have hs2 : ((⟨#[45]⟩ : ByteArray) ++ t).size = 1 + t.size := by rw [ByteArray.size_append]; rfl
      rw [if_neg ht, if_pos (by omega), if_pos (by rw [hs, hs2]; omega)]
      congr 2
      unfold printV
      rw [if_neg ht]
      apply ByteArray.ext
      apply Array.ext'
      simp [ByteArray.data_append]
  | succ d ih =>
    intro k i hd hk h1 ha
    obtain ⟨k, rfl⟩ : ∃ m, k = m + 1 := ⟨k - 1, by omega⟩
    have hi : i < l.length := by omega
    have e1 : rd l (i : Int) = l[i] := by unfold rd; simp [hi]
    have htk : l.take (i + 1) = l.take i ++ [l[i]] := by rw [List.take_add_one, List.getElem?_eq_getElem hi]; rfl
    simp only [PPrn.version_Print.l0]
    rw [if_pos (by omega), if_pos (by omega), if_pos (by omega), e1]
    have hnot : okN l[i] = false → l.all okN = false := fun h => by
      rw [Bool.eq_false_iff]
      intro h2
      have := List.all_eq_true.1 h2 l[i] (List.getElem_mem hi)
      rw [h] at this
      cases this
    by_cases c1 : l[i] < 0
    · rw [if_pos c1, hnot (by unfold okN; simp; omega)]
      rfl
    · by_cases c2 : l[i] > 999999999
      · rw [if_neg c1, if_pos c2, hnot (by unfold okN; simp; omega)]
        rfl
      · have hit : strconv_Itoa.f l[i] = some ⟨(Lib.itoa l[i]).toArray⟩ := by
          unfold strconv_Itoa.f
          rw [if_pos ⟨by omega, by omega⟩]
        rw [if_neg c1, if_neg c2, hit, Option.bind_some, if_pos (by simp; omega), wrap_idN (by omega) (by omega)]
        have := ih k (i + 1) (by omega) (by omega) (by omega) (by rw [htk, List.all_append, ha]; simp [okN]; omega)
        rw [htk, List.map_append] at this
        exact this
theorem print_f (l : List Int) (t : ByteArray) (r : ByteArray × Int) (h : version_Print.f l t = some r) : PPrn.version_Print.f 20 l t = some r := by
  unfold version_Print.f at h
  split at h
  · rename_i hh
    unfold PPrn.version_Print.f
    have hok : okV l t.data.toList = (decide (1 ≤ l.length) && decide (l.length ≤ 8) && l.all okN && tagB t.data.toList) := rfl
    rw [hok] at h
    by_cases c1 : l.length < 1
    · rw [if_pos (by omega)]
      rw [decide_eq_false (show ¬ 1 ≤ l.length by omega)] at h
      simpa [PPrn.version_Print.j0] using h
    · by_cases c2 : l.length > 8
      · rw [if_neg (by omega), if_pos (by omega)]
        rw [decide_eq_false (show ¬ l.length ≤ 8 by omega)] at h
        simpa [PPrn.version_Print.j0] using h
      · have htg : version_tag.f t = some (tagB t.data.toList) := by
          unfold version_tag.f
          rw [if_pos (by omega)]
        rw [if_neg (by omega), if_neg (by omega), htg, Option.bind_some]
        rw [decide_eq_true (show 1 ≤ l.length by omega), decide_eq_true (show l.length ≤ 8 by omega)] at h
        cases htag : tagB t.data.toList with
        | false =>
          rw [htag] at h
          simpa [PPrn.version_Print.j0] using h
        | true =>
          rw [htag] at h
          have := print_l0 l t (by omega) (by omega) l.length 19 0 (by omega) (by omega) (by omega) rfl
          simp only [PPrn.version_Print.j0, Bool.not_true, Bool.false_eq_true, if_false]
          rw [← h]
          simpa using this
  · cases h
theorem version_Print.calls (A0_0 : Option Addr) (c0_0 : Nat) (l0_0 : List Int) (a0_1 : ByteArray) (r1 : ByteArray) (r2 : Int) (w : World) (hr0_0 : Kd.C (Kd.int .i64) w A0_0 l0_0.length l0_0) (hc0_0 : l0_0.length ≤ c0_0) (hT : VTabs w) (h : version_Print.f l0_0 a0_1 = some (r1, r2)) :
    Calls Tryz.prog 12 #[.agg #[.slice A0_0 l0_0.length c0_0, .string a0_1]] w fun e w' => e = .returned (.tuple #[.string r1, .int .i64 r2]) ∧ Below w.heap.size w w' :=
  PPrn.version_Print.calls 20 A0_0 c0_0 l0_0 a0_1 r1 r2 w hr0_0 hc0_0 hT (print_f l0_0 a0_1 (r1, r2) h)
end Go.Proofs.YtnbmdecehlljcaaGreatDoor
namespace Go.Proofs.YtnbmdecehlljcaaGreatDoor
open Go.Shelf Go.RowKit Go.Sort Go.Lib Go.Proofs.YtnbmdecehlljcaaGreatDoorW.PrintWords Go.Proofs.YtnbmdecehlljcaaGreatDoorW.PrintMore
set_option linter.unusedVariables false
set_option linter.unusedSimpArgs false
/-- The same, to be reckoned with. -/
def partsC : List (List UInt8) → Option (List Int)
  | [] => some []
  | p :: r => if canonB p = true then (match partsC r with | none => none | some l => some ((valF 0 p : Int) :: l)) else none
theorem partsC_eq : ∀ ps, partsNums ps = partsC ps
  | [] => rfl
  | p :: r => by
    unfold partsNums partsC
    rw [progNum_eq, partsC_eq r]
    by_cases h : canonB p = true
    · rw [if_pos h, if_pos h]
      rfl
    · rw [if_neg h, if_neg h]
def parseC (l : List UInt8) : Option (List Int × List UInt8) :=
  if ((cutOn 45 l).2.2 && (cutOn 45 l).2.1.isEmpty || !tagB (cutOn 45 l).2.1) = true then none
  else if 8 < (splitOn 46 (cutOn 45 l).1).length then none
  else match partsC (splitOn 46 (cutOn 45 l).1) with
    | none => none
    | some ns => some (ns, (cutOn 45 l).2.1)
theorem parseC_eq (l : List UInt8) : parseV l = parseC l := by
  unfold parseV parseC
  rw [partsC_eq]
  rfl
theorem ex1 : parseV [49, 46, 50, 48, 46, 51, 45, 114, 99, 49] = some ([1, 20, 3], [114, 99, 49]) := by rw [parseC_eq]; decide +kernel
theorem ex2 : parseV [49, 46, 50] = some ([1, 2], []) := by rw [parseC_eq]; decide +kernel
theorem ex3 : parseV [49, 46, 49, 48] = some ([1, 10], []) := by rw [parseC_eq]; decide +kernel
theorem ex4 : parseV [49, 46, 50, 46, 48] = some ([1, 2, 0], []) := by rw [parseC_eq]; decide +kernel
theorem ex5 : parseV [49, 46, 48, 45, 114, 99, 49] = some ([1, 0], [114, 99, 49]) := by rw [parseC_eq]; decide +kernel
theorem ex6 : parseV [49, 46, 48] = some ([1, 0], []) := by rw [parseC_eq]; decide +kernel
theorem ex7 : parseV [48, 49] = none := by rw [parseC_eq]; decide +kernel
theorem ex8 : parseV [49, 48] = some ([10], []) := by rw [parseC_eq]; decide +kernel
theorem ex9 : parseV [50] = some ([2], []) := by rw [parseC_eq]; decide +kernel
theorem exSort : sortT [⟨#[49, 48]⟩, ⟨#[50]⟩] = [⟨#[50]⟩, ⟨#[49, 48]⟩] := by
  have e1 : cfT ⟨#[49, 48]⟩ ⟨#[50]⟩ = 1 := by
    show cmpV (numsOf (parseV [49, 48])) (tagOf (parseV [49, 48])) (numsOf (parseV [50])) (tagOf (parseV [50])) = 1
    rw [ex8, ex9]
    decide
  unfold sortT
  simp [List.mergeSort, List.MergeSort.Internal.splitInTwo, List.merge, e1]
theorem exTexts (s t : ByteArray) (x y : List Int × List UInt8) (hx : parseV s.data.toList = some x) (hy : parseV t.data.toList = some y) (hs : s.size < 1000000) (ht : t.size < 1000000) (c : Int) (hc : cmpV x.1 x.2 y.1 y.2 = c) (w W : World) (hT : VTabs w) (hb : Below w.heap.size w W) :
    Calls Tryz.prog 32 #[.string s, .string t] W fun e w' => e = .returned (.tuple #[.int .i64 c, .bool true]) ∧ Below W.heap.size W w' :=
  (Texts_G s t hs ht W (hT.below hb) x y hx hy).mono fun _ _ h => ⟨by rw [h.1, hc], h.2.b⟩
theorem lit_stringsV {W : World} {b : Nat} {t : TypeId} {fr : Nat × Nat} (xs : List ByteArray) (h : W.heap[b]? = some (.cells (xs.map Value.string).toArray t fr)) (hl : xs.length ≤ 9223372036854775807) : Kd.C Kd.string W (some ⟨b, 0, none⟩) xs.length xs := by
  refine ⟨rfl, hl, fun _ => ⟨_, rfl, fun j p hp => ⟨[.string p], rfl, rfl, fun i u hu => ?_⟩⟩⟩
  have hi : i = 0 := by
    rcases i with _ | i
    · rfl
    · simp at hu
  subst hi
  have e : u = .string p := by simpa using hu.symm
  subst e
  have e2 : (⟨b, 0, none⟩ : Addr).add (j * 1 + 0) = ⟨b, j, none⟩ := by simp only [Addr.add, Nat.mul_one, Nat.add_zero, Nat.zero_add]; try (split <;> simp_all)
  show W.cell? ((⟨b, 0, none⟩ : Addr).add (j * 1 + 0)) = _
  rw [e2]
  simp [World.cell?, h, hp]
theorem exInts : PKit.tithebarnkit_SameInts.f 5 [1, 20, 3] [1, 20, 3] = some true := by decide +kernel
theorem exSame : PKit.tithebarnkit_SameTexts.f 5 [⟨#[50]⟩, ⟨#[49, 48]⟩] [⟨#[50]⟩, ⟨#[49, 48]⟩] = some true := by decide +kernel
set_option maxRecDepth 100000 in
set_option maxHeartbeats 8000000 in
theorem works_any (w : World) (hT : VTabs w) : Calls Tryz.prog 11 #[] w fun e w' => e = .returned (.bool true) ∧ Below w.heap.size w w' := by
  have HT := Aside0.mk hT
  have HB : Aside0 (Below w.heap.size w w) := ⟨Below.refl _ _⟩
  have H1 : Aside0 (∀ W, Below w.heap.size w W → Calls Tryz.prog 35 #[.string ⟨#[49, 46, 50, 48, 46, 51, 45, 114, 99, 49]⟩] W fun e w' => ∃ v, e = .returned (.tuple #[.agg #[v, .string ⟨#[114, 99, 49]⟩], .int .i64 0]) ∧ Kd.R (Kd.int .i64) 3 w' W.heap.size (fun _ => True) v [1, 20, 3] ∧ Below W.heap.size W w') := ⟨fun W h => by
    have := Parse_any ⟨#[49, 46, 50, 48, 46, 51, 45, 114, 99, 49]⟩ (by decide) W (hT.below h)
    rw [show (⟨#[49, 46, 50, 48, 46, 51, 45, 114, 99, 49]⟩ : ByteArray).data.toList = [49, 46, 50, 48, 46, 51, 45, 114, 99, 49] from rfl, ex1] at this
    exact this⟩
  have H5 : Aside0 (∀ W, Below w.heap.size w W → Calls Tryz.prog 35 #[.string ⟨#[48, 49]⟩] W fun e w' => ∃ v, e = .returned (.tuple #[.agg #[v, .string ⟨#[]⟩], .int .i64 130]) ∧ Kd.R (Kd.int .i64) 3 w' W.heap.size (fun _ => True) v [] ∧ Below W.heap.size W w') := ⟨fun W h => by
    have := Parse_any ⟨#[48, 49]⟩ (by decide) W (hT.below h)
    rw [show (⟨#[48, 49]⟩ : ByteArray).data.toList = [48, 49] from rfl, ex7] at this
    exact this⟩
  have H2 := Aside0.mk (fun W (h : Below w.heap.size w W) => exTexts ⟨#[49, 46, 50]⟩ ⟨#[49, 46, 49, 48]⟩ _ _ ex2 ex3 (by decide) (by decide) (-1) (by decide) w W hT h)
  have H3 := Aside0.mk (fun W (h : Below w.heap.size w W) => exTexts ⟨#[49, 46, 50]⟩ ⟨#[49, 46, 50, 46, 48]⟩ _ _ ex2 ex4 (by decide) (by decide) (-1) (by decide) w W hT h)
  have H4 := Aside0.mk (fun W (h : Below w.heap.size w W) => exTexts ⟨#[49, 46, 48, 45, 114, 99, 49]⟩ ⟨#[49, 46, 48]⟩ _ _ ex5 ex6 (by decide) (by decide) (-1) (by decide) w W hT h)
  have hsf : version_Sort.f [⟨#[49, 48]⟩, ⟨#[50]⟩] = some ([⟨#[50]⟩, ⟨#[49, 48]⟩], 0) := by
    unfold version_Sort.f
    rw [if_pos ⟨by decide, by intro s hs; simp at hs; rcases hs with rfl | rfl <;> decide⟩, if_pos (by
      simp only [List.all_cons, List.all_nil, Bool.and_true, Bool.and_eq_true]
      exact ⟨by unfold okT; rw [show (⟨#[49, 48]⟩ : ByteArray).data.toList = [49, 48] from rfl, ex8]; rfl, by unfold okT; rw [show (⟨#[50]⟩ : ByteArray).data.toList = [50] from rfl, ex9]; rfl⟩), exSort]
  have H6 : Aside0 (∀ W b, Below w.heap.size w W → Kd.C Kd.string W (some ⟨b, 0, none⟩) 2 [⟨#[49, 48]⟩, ⟨#[50]⟩] → Calls Tryz.prog 36 #[.slice (some ⟨b, 0, none⟩) 2 2] W fun e w' => ∃ v, e = .returned (.tuple #[v, .int .i64 0]) ∧ Kd.R Kd.string 9 w' W.heap.size (fun _ => True) v [⟨#[50]⟩, ⟨#[49, 48]⟩] ∧ Below W.heap.size W w') := ⟨fun W b h hc => version_Sort.calls _ 2 [⟨#[49, 48]⟩, ⟨#[50]⟩] _ _ W hc (by decide) (hT.below h) hsf⟩
  clear hsf hT
  go_enter Tryz.func11, Tryz.ntmps11
  go_wp2_with fail
  refine (H1.out _ HB.out).mono ?_
  rintro e w1 ⟨v, rfl, hv, hb⟩
  obtain ⟨A1, c1, rfl⟩ := Kd.R_slice hv
  obtain ⟨_, hlc, hC⟩ := Kd.R_reads' hv
  have HX1 : Aside0 (VBox (w1.alloc (.cells #[.slice A1 3 c1, .string ⟨#[114, 99, 49]⟩] 24)) w1.heap.size A1 c1 [1, 20, 3] ⟨#[114, 99, 49]⟩) := ⟨box_new hC hlc⟩
  replace HB := Aside0.mk ((HB.out.trans (hb.mono HB.out.size)).alloc (HB.out.trans (hb.mono HB.out.size)).size (.cells #[.slice A1 3 c1, .string ⟨#[114, 99, 49]⟩] 24))
  clear hv hlc hC hb
  generalize hW1 : w1.alloc (.cells #[.slice A1 3 c1, .string ⟨#[114, 99, 49]⟩] 24) = W1 at *
  generalize hg1 : w1.heap.size = g1 at *
  go_wp2_with fail
  refine (H2.out _ HB.out).mono ?_
  rintro e w2 ⟨rfl, hb⟩
  replace HX1 := Aside0.mk (HX1.out.below hb)
  replace HB := Aside0.mk (HB.out.trans (hb.mono HB.out.size))
  clear hb
  go_wp2_with fail
  refine (H3.out _ HB.out).mono ?_
  rintro e w3 ⟨rfl, hb⟩
  replace HX1 := Aside0.mk (HX1.out.below hb)
  replace HB := Aside0.mk (HB.out.trans (hb.mono HB.out.size))
  clear hb
  go_wp2_with fail
  refine (H4.out _ HB.out).mono ?_
  rintro e w4 ⟨rfl, hb⟩
  replace HX1 := Aside0.mk (HX1.out.below hb)
  replace HB := Aside0.mk (HB.out.trans (hb.mono HB.out.size))
  clear hb
  go_wp2_with fail
  refine (H5.out _ HB.out).mono ?_
  rintro e w5 ⟨v, rfl, hv, hb⟩
  obtain ⟨A5, c5, rfl⟩ := Kd.R_slice hv
  replace HX1 := Aside0.mk ((HX1.out.below hb).below ((Below.refl _ w5).alloc (Nat.le_refl _) (.cells #[.slice A5 0 c5, .string ⟨#[]⟩] 24)))
  replace HB := Aside0.mk ((HB.out.trans (hb.mono HB.out.size)).alloc (HB.out.trans (hb.mono HB.out.size)).size (.cells #[.slice A5 0 c5, .string ⟨#[]⟩] 24))
  clear hv hb
  go_wp2_with fail
  have hz : (w5.alloc (.cells #[.slice A5 0 c5, .string ⟨#[]⟩] 24)).heap.size = w5.heap.size + 1 := by simp
  generalize w5.alloc (.cells #[.slice A5 0 c5, .string ⟨#[]⟩] 24) = W5 at *
  have hL := lit_stringsV [(⟨#[49, 48]⟩ : ByteArray), ⟨#[50]⟩] (heap_alloc_new W5 (.cells ([(⟨#[49, 48]⟩ : ByteArray), ⟨#[50]⟩].map Value.string).toArray 9)) (by decide)
  replace HX1 := Aside0.mk (HX1.out.below ((Below.refl _ W5).alloc (Nat.le_refl _) (.cells #[.string ⟨#[49, 48]⟩, .string ⟨#[50]⟩] 9)))
  replace HB := Aside0.mk (HB.out.alloc HB.out.size (.cells #[.string ⟨#[49, 48]⟩, .string ⟨#[50]⟩] 9))
  rw [hz] at hL
  refine (H6.out _ _ HB.out hL).mono ?_
  clear hz
  clear hL
  rintro e w6 ⟨v, rfl, hv, hb⟩
  obtain ⟨A6, c6, rfl⟩ := Kd.R_slice hv
  obtain ⟨_, hlc, hC⟩ := Kd.R_reads' hv
  replace HX1 := Aside0.mk (HX1.out.below hb)
  replace HB := Aside0.mk (HB.out.trans (hb.mono HB.out.size))
  have HC6 := Aside0.mk hC
  have HL6 := Aside0.mk hlc
  clear hv hb hC hlc
  obtain ⟨x0, x1⟩ := HX1.out.cells
  have x0' : w6.cell? ⟨g1, 0, none⟩ = some (.slice A1 3 c1) := x0
  clear x0
  have HI : Aside0 (Calls Tryz.prog 37 #[.slice A1 3 c1, .slice (some ⟨w6.heap.size, 0, none⟩) 3 3] (w6.alloc (.cells #[.int .i64 1, .int .i64 20, .int .i64 3] 3)) fun e w' => e = .returned (.bool true) ∧ Below (w6.alloc (.cells #[.int .i64 1, .int .i64 20, .int .i64 3] 3)).heap.size (w6.alloc (.cells #[.int .i64 1, .int .i64 20, .int .i64 3] 3)) w') :=
    ⟨(PKit.tithebarnkit_SameInts.calls 5 A1 c1 [1, 20, 3] _ 3 [1, 20, 3] true _ (Kd.C_alloc HX1.out.r _) HX1.out.c (alloc_intsV w6 3 [1, 20, 3] (by decide)) (by decide) exInts).mono fun _ _ h => ⟨h.1, h.2.below⟩⟩
  have HB7 := Aside0.mk (HB.out.alloc HB.out.size (.cells #[.int .i64 1, .int .i64 20, .int .i64 3] 3))
  have x2 : (w6.alloc (.cells #[.int .i64 1, .int .i64 20, .int .i64 3] 3)).cell? ⟨g1, 1, none⟩ = some (.string ⟨#[114, 99, 49]⟩) := (((Below.refl _ w6).alloc (Nat.le_refl _) _).cell (Lib.lt_of_cell x1)).trans x1
  go_wp2_with fail
  refine (HI.out).mono ?_
  rintro e w7 ⟨rfl, hb⟩
  have x3 : w7.cell? ⟨g1, 1, none⟩ = some (.string ⟨#[114, 99, 49]⟩) := (hb.cell (Lib.lt_of_cell x2)).trans x2
  have HB8 := Aside0.mk (HB7.out.trans (hb.mono HB7.out.size))
  have HC7 := Aside0.mk (Kd.C_below (Kd.C_alloc HC6.out (.cells #[.int .i64 1, .int .i64 20, .int .i64 3] 3)) (show Below (w6.alloc (.cells #[.int .i64 1, .int .i64 20, .int .i64 3] 3)).heap.size (w6.alloc (.cells #[.int .i64 1, .int .i64 20, .int .i64 3] 3)) w7 from hb))
  clear x2 hb HI
  have HJ : Aside0 (Calls Tryz.prog 38 #[.slice A6 2 c6, .slice (some ⟨w7.heap.size, 0, none⟩) 2 2] (w7.alloc (.cells #[.string ⟨#[50]⟩, .string ⟨#[49, 48]⟩] 9)) fun e w' => e = .returned (.bool true) ∧ Below (w7.alloc (.cells #[.string ⟨#[50]⟩, .string ⟨#[49, 48]⟩] 9)).heap.size (w7.alloc (.cells #[.string ⟨#[50]⟩, .string ⟨#[49, 48]⟩] 9)) w') :=
    ⟨(PKit.tithebarnkit_SameTexts.calls 5 A6 c6 [⟨#[50]⟩, ⟨#[49, 48]⟩] _ 2 [⟨#[50]⟩, ⟨#[49, 48]⟩] true _ (Kd.C_alloc HC7.out _) HL6.out (lit_stringsV [(⟨#[50]⟩ : ByteArray), ⟨#[49, 48]⟩] (heap_alloc_new w7 _) (by decide)) (by decide) exSame).mono fun _ _ h => ⟨h.1, h.2.below⟩⟩
  have HB9 := Aside0.mk (HB8.out.alloc HB8.out.size (.cells #[.string ⟨#[50]⟩, .string ⟨#[49, 48]⟩] 9))
  go_wp2_with fail
  refine (HJ.out).mono ?_
  rintro e w8 ⟨rfl, hb⟩
  have HB10 := Aside0.mk (HB9.out.trans (hb.mono HB9.out.size))
  clear hb HJ
  go_wp2_with fail
  go_ret
  exact ⟨rfl, HB10.out⟩
theorem tithebarnlaw13_works.calls (r : Bool) (w : World) (hT : VTabs w) (h : tithebarnlaw13_works.f = some r) : Calls Tryz.prog 11 #[] w fun e w' => e = .returned (.bool r) ∧ Below w.heap.size w w' := by
  unfold tithebarnlaw13_works.f at h
  cases h
  exact works_any w hT
end Go.Proofs.YtnbmdecehlljcaaGreatDoor
