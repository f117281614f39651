/- What the printed rows' functions answer: lists in their order. No program. version.Compare: which of two versions is less. version.Texts of two versions, and the comparison of a sort: nothing is drawn back. version.Sort. version.Print: what it answers. The document's examples on versions hold. -/
import Derived.Test.YtnbmdecehlljcaaGreatDoorPBasex1
import Derived.Test.YtnbmdecehlljcaaGreatDoorWMore
import Derived.Lib.Strings
import Derived.Lib.Walk
import Derived.Lib.ConvBytes
import Derived.Lib.AtoiErrMem
import Derived.Lib.Hide
import Derived.WalkKit
import Derived.BigCall
import Derived.BigGuard
import Derived.Test.YtnbmdecehlljcaaGreatDoorVerJ
import Derived.Sort.OwnSortedInts
import Derived.Lib.RowBridge
import Derived.Lib.SortBridge
import Derived.Test.YtnbmdecehlljcaaGreatDoorPPrnx0
import Derived.Test.YtnbmdecehlljcaaGreatDoorPKitx0
namespace Go.Proofs.YtnbmdecehlljcaaGreatDoor
open Go.Proofs.YtnbmdecehlljcaaGreatDoorW.PrintWords Go.Proofs.YtnbmdecehlljcaaGreatDoorW.PrintMore Go.RowKit
set_option linter.unusedVariables false
set_option linter.unusedSimpArgs false
theorem wrap_idV {i : Int} (h1 : -9223372036854775808 ≤ i) (h2 : i ≤ 9223372036854775807) : wrap64 i = i := by unfold wrap64; omega
theorem cmpInt_f (a b : Int) : PBase.cmp_Compare_int.f a b = some (cmpI a b) := by
  unfold PBase.cmp_Compare_int.f PBase.cmp_isNaN_int.f cmpI
  simp
  split
  · rfl
  · split <;> rfl
theorem cmpByte_f (a b : Int) : PBase.cmp_Compare_byte.f a b = some (cmpI a b) := by
  unfold PBase.cmp_Compare_byte.f PBase.cmp_isNaN_byte.f cmpI
  simp
  split
  · rfl
  · split <;> rfl
theorem cmpL_cons (x y : Int) (a b : List Int) : cmpL (x :: a) (y :: b) = if cmpI x y = 0 then cmpL a b else cmpI x y := by
  unfold cmpI
  conv => lhs; unfold cmpL
  by_cases h1 : x < y
  · simp [h1]
  · by_cases h2 : y < x
    · simp [h1, h2]
    · simp [h1, h2]
theorem rows_int_l0 (a b : List Int) (ha : a.length ≤ 4611686018427387904) (hb : b.length ≤ 4611686018427387904) : ∀ (d k i : Nat), a.length - i = d → d < k → i ≤ a.length → i ≤ b.length →
    PBase.version_rows_int.l0 k a b a (a.length : Int) (i : Int) = some (cmpL (a.drop i) (b.drop i)) := by
  intro d
  induction d with
  | zero =>
    intro k i hd hk h1 h2
    obtain ⟨k, rfl⟩ : ∃ m, k = m + 1 := ⟨k - 1, by omega⟩
    have e : i = a.length := by omega
    subst e
    simp only [PBase.version_rows_int.l0]
    rw [if_neg (by omega), cmpInt_f, Option.bind_some, List.drop_length]
    congr 1
    unfold cmpI
    by_cases h : a.length < b.length
    · rw [if_pos (by omega), List.drop_eq_getElem_cons h]
      rfl
    · rw [if_neg (by omega), if_neg (by omega), List.drop_eq_nil_of_le (by omega)]
      rfl
  | succ d ih =>
    intro k i hd hk h1 h2
    obtain ⟨k, rfl⟩ : ∃ m, k = m + 1 := ⟨k - 1, by omega⟩
    have hi : i < a.length := by omega
    simp only [PBase.version_rows_int.l0]
    rw [if_pos (by omega), if_pos (by omega), if_pos (by omega), List.drop_eq_getElem_cons hi]
    by_cases h : i = b.length
    · rw [if_pos (by omega), List.drop_eq_nil_of_le (show b.length ≤ i by omega)]
      rfl
    · have hb2 : i < b.length := by omega
      rw [if_neg (by omega), if_pos (by omega), cmpInt_f, Option.bind_some, List.drop_eq_getElem_cons hb2, cmpL_cons]
      have e1 : rd a (i : Int) = a[i] := by unfold rd; simp [hi]
      have e2 : rd b (i : Int) = b[i] := by unfold rd; simp [hb2]
      rw [e1, e2]
      by_cases hc : cmpI a[i] b[i] = 0
      · rw [if_pos hc, if_pos hc, wrap_idV (by omega) (by omega)]
        exact ih k (i + 1) (by omega) (by omega) (by omega) (by omega)
      · rw [if_neg hc, if_neg hc]
theorem rows_int_f (a b : List Int) (ha : a.length ≤ 4611686018427387904) (hb : b.length ≤ 4611686018427387904) : PBase.version_rows_int.f (a.length + 1) a b = some (cmpL a b) :=
  rows_int_l0 a b ha hb a.length (a.length + 1) 0 (by omega) (by omega) (by omega) (by omega)
theorem rows_byte_l0 (a b : List Int) (ha : a.length ≤ 4611686018427387904) (hb : b.length ≤ 4611686018427387904) : ∀ (d k i : Nat), a.length - i = d → d < k → i ≤ a.length → i ≤ b.length →
    PBase.version_rows_byte.l0 k a b a (a.length : Int) (i : Int) = some (cmpL (a.drop i) (b.drop i)) := by
  intro d
  induction d with
  | zero =>
    intro k i hd hk h1 h2
    obtain ⟨k, rfl⟩ : ∃ m, k = m + 1 := ⟨k - 1, by omega⟩
    have e : i = a.length := by omega
    subst e
    simp only [PBase.version_rows_byte.l0]
    rw [if_neg (by omega), cmpInt_f, Option.bind_some, List.drop_length]
    congr 1
    unfold cmpI
    by_cases h : a.length < b.length
    · rw [if_pos (by omega), List.drop_eq_getElem_cons h]
      rfl
    · rw [if_neg (by omega), if_neg (by omega), List.drop_eq_nil_of_le (by omega)]
      rfl
  | succ d ih =>
    intro k i hd hk h1 h2
    obtain ⟨k, rfl⟩ : ∃ m, k = m + 1 := ⟨k - 1, by omega⟩
    have hi : i < a.length := by omega
    simp only [PBase.version_rows_byte.l0]
    rw [if_pos (by omega), if_pos (by omega), if_pos (by omega), List.drop_eq_getElem_cons hi]
    by_cases h : i = b.length
    · rw [if_pos (by omega), List.drop_eq_nil_of_le (show b.length ≤ i by omega)]
      rfl
    · have hb2 : i < b.length := by omega
      rw [if_neg (by omega), if_pos (by omega), cmpByte_f, Option.bind_some, List.drop_eq_getElem_cons hb2, cmpL_cons]
      have e1 : rd a (i : Int) = a[i] := by unfold rd; simp [hi]
      have e2 : rd b (i : Int) = b[i] := by unfold rd; simp [hb2]
      rw [e1, e2]
      by_cases hc : cmpI a[i] b[i] = 0
      · rw [if_pos hc, if_pos hc, wrap_idV (by omega) (by omega)]
        exact ih k (i + 1) (by omega) (by omega) (by omega) (by omega)
      · rw [if_neg hc, if_neg hc]
theorem rows_byte_f (a b : List Int) (ha : a.length ≤ 4611686018427387904) (hb : b.length ≤ 4611686018427387904) : PBase.version_rows_byte.f (a.length + 1) a b = some (cmpL a b) :=
  rows_byte_l0 a b ha hb a.length (a.length + 1) 0 (by omega) (by omega) (by omega) (by omega)
def or3 (x y z : Int) : Int := if x ≠ 0 then x else if y ≠ 0 then y else z
theorem cmp_Or_f (x y z : Int) : PBase.cmp_Or_int.f 4 [x, y, z] = some (or3 x y z) := by
  have w1 : wrap64 1 = 1 := wrap_idV (by omega) (by omega)
  have w2 : wrap64 2 = 2 := wrap_idV (by omega) (by omega)
  have w3 : wrap64 3 = 3 := wrap_idV (by omega) (by omega)
  unfold PBase.cmp_Or_int.f or3
  by_cases hx : x = 0
  · by_cases hy : y = 0
    · by_cases hz : z = 0
      · simp [PBase.cmp_Or_int.l0, rd, hx, hy, hz, w1, w2, w3]
      · simp [PBase.cmp_Or_int.l0, rd, hx, hy, hz, w1, w2, w3]
    · simp [PBase.cmp_Or_int.l0, rd, hx, hy, w1, w2, w3]
  · simp [PBase.cmp_Or_int.l0, rd, hx]
theorem cmpV_or3 (a : List Int) (s : List UInt8) (b : List Int) (t : List UInt8) : cmpV a s b t = or3 (cmpL a b) (cmpI (noneT s) (noneT t)) (cmpL (bytesI s) (bytesI t)) := rfl
end Go.Proofs.YtnbmdecehlljcaaGreatDoor
namespace Go.Proofs.YtnbmdecehlljcaaGreatDoor
open Go.Shelf Go.RowKit Go.Sort Go.Proofs.YtnbmdecehlljcaaGreatDoorW.PrintWords Go.Proofs.YtnbmdecehlljcaaGreatDoorW.PrintLast Go.Proofs.YtnbmdecehlljcaaGreatDoorW.PrintMore
set_option linter.unusedVariables false
set_option linter.unusedSimpArgs false
variable {P : Program} {ops : Array Oper} {Q : Exit → Act → World → Prop}
/-- A call of a function that lies in a slot. -/
theorem goesV_ {oi : Oper} {N : Option Tmp} {a : Act} {w : World} {K : Act → World → Prop} (t : Tmp) {f : FuncId} {fn : Func} {ars : Array Operand} {ts : Array TypeId} (hf : P.funcs[f]? = some fn) (hname : (fn.name == "runtime.NumGoroutine") = false) (hb : fn.body.isSome = true) (args : Array Value)
    (hw : Region.wanted oi (yielded ops a.tmps) = true) (hN : oi.dst = N) (hop : oi.op = .call { callee := .value (.tmp t), args := ars, argTypes := ts }) (hv : a.eval (.tmp t) = .func (.func f) #[] #[]) (hargs : ars.map a.eval = args)
    (h : Calls P f args w fun e w' => ∃ v, e = .returned v ∧ K (a.put N v) w') : if Region.wanted oi (yielded ops a.tmps) = true then Oper.wp P oi a w K Q else K (a.put N undef) w := by
  refine call_ f args hw hN ?_ h
  have he := enters_ hf hname hb args w
  unfold execOp
  simp [hop, resolve, Deferred.ofValue, invoke, hv, hargs, he]
structure BoxAt (W : World) (g : Nat) (A : Option Addr) (n c : Nat) (s : ByteArray) : Prop where
  b : W.heap[g]? = some (.cells #[.slice A n c, .string s] 24 (0, 0))
theorem BoxAt.below {W W' : World} {g : Nat} {A : Option Addr} {n c : Nat} {s : ByteArray} (h : BoxAt W g A n c s) (hb : Below W.heap.size W W') : BoxAt W' g A n c s := ⟨(hb.block _ (by have := (Array.getElem?_eq_some_iff.1 h.b).1; exact this)).trans h.b⟩
theorem box_cells {W : World} {g : Nat} {A : Option Addr} {n c : Nat} {s : ByteArray} (h : BoxAt W g A n c s) : W.cell? ⟨g, 0, none⟩ = some (.slice A n c) ∧ W.cell? ⟨g, 1, none⟩ = some (.string s) := by
  have := h.b
  exact ⟨by simp [World.cell?, this], by simp [World.cell?, this]⟩
theorem conv_row (w : World) (e : TypeId) (s : ByteArray) (is : List Int) (hl : s.size = is.length) (hi : is = bytesI s.data.toList) (hs : s.size ≤ 9223372036854775807) : Kd.C (Kd.int .u8) (Lib.bytesWorld w e s) (some ⟨w.heap.size, 0, none⟩) is.length is ∧ is.length ≤ grownCap w s.size 0 e := by
  have h := bytes_reads w e s hs
  have h2 : bytesOf s = is := hi.symm
  rw [h2, hl] at h
  refine ⟨Kd.C_of_reads (d := (0 : Int)) (h1 := fun _ => rfl) h, ?_⟩
  rw [← hl]
  exact grownCap_ge w s.size 0 e
theorem lit_intsV {W : World} {b : Nat} {t : TypeId} {fr : Nat × Nat} (xs : List Int) (h : W.heap[b]? = some (.cells (xs.map (Value.int .i64)).toArray t fr)) (hl : xs.length ≤ 9223372036854775807) : Kd.C (Kd.int .i64) W (some ⟨b, 0, none⟩) xs.length xs := by
  refine ⟨rfl, hl, fun _ => ⟨_, rfl, fun j p hp => ⟨[.int .i64 p], rfl, rfl, fun i u hu => ?_⟩⟩⟩
  have hi : i = 0 := by
    rcases i with _ | i
    · rfl
    · simp at hu
  subst hi
  have e : u = .int .i64 p := by simpa using hu.symm
  subst e
  have e2 : (⟨b, 0, none⟩ : Addr).add (j * 1 + 0) = ⟨b, j, none⟩ := by simp only [Addr.add, Nat.mul_one, Nat.add_zero, Nat.zero_add]; try (split <;> simp_all)
  show W.cell? ((⟨b, 0, none⟩ : Addr).add (j * 1 + 0)) = _
  rw [e2]
  simp [World.cell?, h, hp]
theorem alloc_intsV (w : World) (t : TypeId) (xs : List Int) (hl : xs.length ≤ 9223372036854775807) : Kd.C (Kd.int .i64) (w.alloc (.cells (xs.map (Value.int .i64)).toArray t)) (some ⟨w.heap.size, 0, none⟩) xs.length xs := lit_intsV xs (heap_alloc_new _ _) hl
theorem GB.of_drawn {w w' : World} (h : Drawn0 w w') : GB w w' := by
  obtain ⟨n, rfl⟩ := h
  exact (GB.refl w).drewN n
theorem none_G (A : Option Addr) (n c : Nat) (s : ByteArray) (w : World) : Calls Tryz.prog 76 #[.agg #[.slice A n c, .string s]] w fun e w' => e = .returned (.int .i64 (noneT s.data.toList)) ∧ GB w w' := by
  by_cases h : s.data.toList = []
  · have e : noneT s.data.toList = 1 := by unfold noneT; rw [if_pos h]
    have h2 : s.toList.isEmpty = true := by rw [ByteArray.toList_eq, h]; rfl
    rw [e]
    clear h e
    go_enter Tryz.func76, Tryz.ntmps76
    go_wp2
    go_ret
    exact ⟨rfl, (GB.refl w).alloc _⟩
  · have e : noneT s.data.toList = 0 := by unfold noneT; rw [if_neg h]
    have h2 : s.toList.isEmpty = false := by rw [ByteArray.toList_eq]; cases hq : s.data.toList with | nil => exact absurd hq h | cons a b => rfl
    rw [e]
    clear h e
    go_enter Tryz.func76, Tryz.ntmps76
    go_wp2
    go_ret
    exact ⟨rfl, (GB.refl w).alloc _⟩
def version_Compare.T2 : Bool × List (List Nat × List Nat) := (true, [([], []), ([0], [0]), ([], []), ([2], [2]), ([1, 3], [1, 3]), ([], []), ([], []), ([5, 6, 4], [5, 6]), ([], []), ([], []), ([8, 9, 7], [8, 9]), ([7, 10, 10], [7, 10]), ([], []), ([12], [12]), ([13], [13]), ([], []), ([15], [15]), ([16], [16]), ([14, 17, 11], [14, 17]), ([4, 11, 18], [4, 11, 18]), ([19, 18], [19]), ([20, 20, 0, 1, 2, 3, 4, 5, 6, 7, 8, 9, 10, 11, 12, 13, 14, 15, 16, 17, 18, 19, 20], [20])])
def version_Compare.B2 : List Nat := [0, 1, 0, 4, 15, 0, 0, 127, 0, 0, 1023, 2047, 0, 4096, 12288, 0, 32768, 98304, 262143, 524287, 1048575, 2097151]
theorem version_Compare.tab2 : rtab .any (opsOf Tryz.f45 2) = version_Compare.T2 := by kernel_rfl
theorem version_Compare.bits2 : waitsOk version_Compare.T2.2 version_Compare.B2 = true := by kernel_rfl
set_option maxHeartbeats 8000000 in
set_option maxRecDepth 100000 in
theorem Compare_G (A0 A1 : Option Addr) (c0 c1 : Nat) (l0 l1 : List Int) (sa sb : ByteArray) (w : World) (hr0 : Kd.C (Kd.int .i64) w A0 l0.length l0) (hc0 : l0.length ≤ c0) (hr1 : Kd.C (Kd.int .i64) w A1 l1.length l1) (hc1 : l1.length ≤ c1)
    (h0 : l0.length ≤ 4611686018427387904) (h1 : l1.length ≤ 4611686018427387904) (ha : sa.size ≤ 4611686018427387904) (hb : sb.size ≤ 4611686018427387904) :
    Calls Tryz.prog 45 #[.agg #[.slice A0 l0.length c0, .string sa], .agg #[.slice A1 l1.length c1, .string sb]] w fun e w' => e = .returned (.int .i64 (cmpV l0 sa.data.toList l1 sb.data.toList)) ∧ GB w w' := by
  have HN1 : Aside0 (∀ W, Calls Tryz.prog 76 #[.agg #[.slice A0 l0.length c0, .string sa]] W fun e w' => e = .returned (.int .i64 (noneT sa.data.toList)) ∧ GB W w') := ⟨fun W => none_G A0 _ c0 sa W⟩
  have HN2 : Aside0 (∀ W, Calls Tryz.prog 76 #[.agg #[.slice A1 l1.length c1, .string sb]] W fun e w' => e = .returned (.int .i64 (noneT sb.data.toList)) ∧ GB W w') := ⟨fun W => none_G A1 _ c1 sb W⟩
  have HR2 : Aside0 (∀ W, Calls Tryz.prog 79 #[.int .i64 (noneT sa.data.toList), .int .i64 (noneT sb.data.toList)] W fun e w' => e = .returned (.int .i64 (cmpI (noneT sa.data.toList) (noneT sb.data.toList))) ∧ GB W w') := ⟨fun W => (PBase.cmp_Compare_int.calls _ _ _ W (cmpInt_f _ _)).mono fun _ _ h => ⟨h.1, GB.of_drawn h.2⟩⟩
  have E_ia : Aside0 (sa.size = (bytesI sa.data.toList).length) := ⟨by rw [Lib.size_eq]; simp [bytesI]⟩
  have E_ib : Aside0 (sb.size = (bytesI sb.data.toList).length) := ⟨by rw [Lib.size_eq]; simp [bytesI]⟩
  have HR3 : Aside0 (∀ W a0 k0 a1 k1, (Kd.C (Kd.int .u8) W a0 (bytesI sa.data.toList).length (bytesI sa.data.toList) ∧ (bytesI sa.data.toList).length ≤ k0) → (Kd.C (Kd.int .u8) W a1 (bytesI sb.data.toList).length (bytesI sb.data.toList) ∧ (bytesI sb.data.toList).length ≤ k1) →
      Calls Tryz.prog 80 #[.slice a0 (bytesI sa.data.toList).length k0, .slice a1 (bytesI sb.data.toList).length k1] W fun e w' => e = .returned (.int .i64 (cmpL (bytesI sa.data.toList) (bytesI sb.data.toList))) ∧ GB W w') :=
    ⟨fun W a0 k0 a1 k1 q0 q1 => (PBase.version_rows_byte.calls _ _ _ _ _ _ _ _ W q0.1 q0.2 q1.1 q1.2 (rows_byte_f _ _ (by rw [← E_ia.out]; exact ha) (by rw [← E_ib.out]; exact hb))).mono fun _ _ h => ⟨h.1, GB.of_drawn h.2⟩⟩
  have HR0 : Aside0 (∀ W, Below w.heap.size w W → Calls Tryz.prog 78 #[.slice A0 l0.length c0, .slice A1 l1.length c1] W fun e w' => e = .returned (.int .i64 (cmpL l0 l1)) ∧ GB W w') :=
    ⟨fun W hb => (PBase.version_rows_int.calls _ _ _ _ _ _ _ _ W (Kd.C_below hr0 hb) hc0 (Kd.C_below hr1 hb) hc1 (rows_int_f _ _ h0 h1)).mono fun _ _ h => ⟨h.1, GB.of_drawn h.2⟩⟩
  have hor := cmpV_or3 l0 sa.data.toList l1 sb.data.toList
  have L_ia : Aside0 (sa.size ≤ 9223372036854775807) := ⟨by omega⟩
  have L_ib : Aside0 (sb.size ≤ 9223372036854775807) := ⟨by omega⟩
  have Q_ia : Aside0 (bytesI sa.data.toList = bytesI sa.data.toList) := ⟨rfl⟩
  have Q_ib : Aside0 (bytesI sb.data.toList = bytesI sb.data.toList) := ⟨rfl⟩
  rw [hor]
  clear hor hr0 hr1 ha hb hc0 hc1 h0 h1
  generalize cmpL l0 l1 = r1 at *
  generalize cmpL (bytesI sa.data.toList) (bytesI sb.data.toList) = r3 at *
  generalize cmpI (noneT sa.data.toList) (noneT sb.data.toList) = r2 at *
  generalize noneT sa.data.toList = n1 at *
  generalize noneT sb.data.toList = n2 at *
  have HR4 : Aside0 (∀ W b, Kd.C (Kd.int .i64) W (some ⟨b, 0, none⟩) ([r1, r2, r3] : List Int).length [r1, r2, r3] → Calls Tryz.prog 77 #[.slice (some ⟨b, 0, none⟩) 3 3] W fun e w' => e = .returned (.int .i64 (or3 r1 r2 r3)) ∧ GB W w') :=
    ⟨fun W b h => (PBase.cmp_Or_int.calls 4 _ 3 [r1, r2, r3] _ W h (by simp) (cmp_Or_f r1 r2 r3)).mono fun _ _ h => ⟨h.1, GB.of_drawn h.2⟩⟩
  generalize or3 r1 r2 r3 = rr at *
  generalize hia : bytesI sa.data.toList = ia at E_ia HR3
  generalize hib : bytesI sb.data.toList = ib at E_ib HR3
  replace Q_ia : Aside0 (ia = bytesI sa.data.toList) := ⟨hia.symm⟩
  replace Q_ib : Aside0 (ib = bytesI sb.data.toList) := ⟨hib.symm⟩
  clear hia hib
  have HA0 : Aside0 (BoxAt ((w.alloc (.cells #[.slice A0 l0.length c0, .string sa] 24)).alloc (.cells #[.slice A1 l1.length c1, .string sb] 24)) w.heap.size A0 l0.length c0 sa) := ⟨BoxAt.below ⟨heap_alloc_new _ _⟩ ((Below.refl _ _).alloc (Nat.le_refl _) _)⟩
  have HB0 : Aside0 (BoxAt ((w.alloc (.cells #[.slice A0 l0.length c0, .string sa] 24)).alloc (.cells #[.slice A1 l1.length c1, .string sb] 24)) (w.heap.size + 1) A1 l1.length c1 sb) := ⟨⟨by have := heap_alloc_new (w.alloc (.cells #[.slice A0 l0.length c0, .string sa] 24)) (.cells #[.slice A1 l1.length c1, .string sb] 24); simpa using this⟩⟩
  have HW0 : Aside0 (GB w ((w.alloc (.cells #[.slice A0 l0.length c0, .string sa] 24)).alloc (.cells #[.slice A1 l1.length c1, .string sb] 24))) := ⟨((GB.refl _).alloc _).alloc _⟩
  go_enter Tryz.func45, Tryz.ntmps45
  go_wp2_with fail
  generalize (w.alloc (.cells #[.slice A0 l0.length c0, .string sa] 24)).alloc (.cells #[.slice A1 l1.length c1, .string sb] 24) = W1 at *
  have HA := Aside0.mk (HA0.out.below ((Below.refl _ W1).drew))
  have HBB := Aside0.mk (HB0.out.below ((Below.refl _ W1).drew))
  have HR1 : Aside0 (∀ W, Below W1.drew.heap.size W1.drew W → Calls Tryz.prog 78 #[.slice A0 l0.length c0, .slice A1 l1.length c1] W fun e w' => e = .returned (.int .i64 r1) ∧ GB W w') := ⟨fun W hb => HR0.out W (HW0.out.drew.b.trans (hb.mono HW0.out.drew.b.size))⟩
  have HWD := Aside0.mk HW0.out.drew
  have HB := Aside0.mk (GB.refl W1.drew)
  clear HA0 HB0 HR0 HW0
  generalize w.heap.size + 1 = gB at *
  generalize hGA : w.heap.size = gA at *
  refine start_ (n := 22) (S := fun w' => True) (ds := []) #[false, false, false, false, false, false, false, false, false, false, false, false, false, false, false, false, false, false, false, false, false, false] (by kernel_rfl) rfl rfl trivial (fun hHeld => ?_)
  refine with_tabW version_Compare.tab2 version_Compare.bits2 (fun HT_ HW_ => ?_)
  generalize W1.drew = wb at HA HBB HB HR1 HWD hHeld ⊢
  refine pure_ (i := 0) (N := some 6) (v := ?_) (a' := ?_) #[true, false, false, false, false, false, false, false, false, false, false, false, false, false, false, false, false, false, false, false, false, false] rfl rfl (any_of HT_.out (by kernel_rfl)) (fun _ _ _ h => h) (Or.inl ⟨by rfl, ?_⟩) ?_ ?_
  rotate_left
  · intro w'
    go_simp
    with_reducible rfl
  rotate_left
  · simp only [Act.put, List.setIfInBounds_toArray, List.set_cons_zero, List.set_cons_succ, i64_w, i32_w]
    rfl
  refine pure_ (i := 2) (N := some 8) (v := ?_) (a' := ?_) #[true, false, true, false, false, false, false, false, false, false, false, false, false, false, false, false, false, false, false, false, false, false] rfl rfl (any_of HT_.out (by kernel_rfl)) (fun _ _ _ h => h) (Or.inl ⟨by rfl, ?_⟩) ?_ ?_
  rotate_left
  · intro w'
    go_simp
    with_reducible rfl
  rotate_left
  · simp only [Act.put, List.setIfInBounds_toArray, List.set_cons_zero, List.set_cons_succ, i64_w, i32_w]
    rfl
  refine pure_ (i := 5) (N := some 11) (v := ?_) (a' := ?_) #[true, false, true, false, false, true, false, false, false, false, false, false, false, false, false, false, false, false, false, false, false, false] rfl rfl (any_of HT_.out (by kernel_rfl)) (fun _ _ _ h => h) (Or.inl ⟨by rfl, ?_⟩) ?_ ?_
  rotate_left
  · intro w'
    go_simp
    with_reducible rfl
  rotate_left
  · simp only [Act.put, List.setIfInBounds_toArray, List.set_cons_zero, List.set_cons_succ, i64_w, i32_w]
    rfl
  refine pure_ (i := 8) (N := some 14) (v := ?_) (a' := ?_) #[true, false, true, false, false, true, false, false, true, false, false, false, false, false, false, false, false, false, false, false, false, false] rfl rfl (any_of HT_.out (by kernel_rfl)) (fun _ _ _ h => h) (Or.inl ⟨by rfl, ?_⟩) ?_ ?_
  rotate_left
  · intro w'
    go_simp
    with_reducible rfl
  rotate_left
  · simp only [Act.put, List.setIfInBounds_toArray, List.set_cons_zero, List.set_cons_succ, i64_w, i32_w]
    rfl
  refine pure_ (i := 12) (N := some 18) (v := ?_) (a' := ?_) #[true, false, true, false, false, true, false, false, true, false, false, false, true, false, false, false, false, false, false, false, false, false] rfl rfl (any_of HT_.out (by kernel_rfl)) (fun _ _ _ h => h) (Or.inl ⟨by rfl, ?_⟩) ?_ ?_
  rotate_left
  · intro w'
    go_simp
    with_reducible rfl
  rotate_left
  · simp only [Act.put, List.setIfInBounds_toArray, List.set_cons_zero, List.set_cons_succ, i64_w, i32_w]
    rfl
  refine pure_ (i := 15) (N := some 21) (v := ?_) (a' := ?_) #[true, false, true, false, false, true, false, false, true, false, false, false, true, false, false, true, false, false, false, false, false, false] rfl rfl (any_of HT_.out (by kernel_rfl)) (fun _ _ _ h => h) (Or.inl ⟨by rfl, ?_⟩) ?_ ?_
  rotate_left
  · intro w'
    go_simp
    with_reducible rfl
  rotate_left
  · simp only [Act.put, List.setIfInBounds_toArray, List.set_cons_zero, List.set_cons_succ, i64_w, i32_w]
    rfl
  refine inv_at [1, 3, 4, 6, 7, 9, 10, 11, 13, 14, 16, 17, 18, 19, 20, 21] (fun a0_ b a w' => ∃ (x1 : Nat) (k1 : Nat) (x2 : Nat) (k2 : Nat) (x3 : Nat) (m14_ : Value) (m17_ : Value) (m19_ : Value), a = putSel a0_ b [(1, 7, .slice A0 l0.length c0), (3, 9, .slice A1 l1.length c1), (4, 10, .int .i64 r1), (6, 12, .agg #[.slice A0 l0.length c0, .string sa]), (7, 13, .int .i64 n1), (9, 15, .agg #[.slice A1 l1.length c1, .string sb]), (10, 16, .int .i64 n2), (11, 17, .int .i64 r2), (13, 19, .string sa), (14, 20, m14_), (16, 22, .string sb), (17, 23, m17_), (18, 24, .int .i64 r3), (19, 25, m19_), (20, 26, .int .i64 rr), (21, 4, .int .i64 rr)] ∧ (GB wb w') ∧ (b 14 = true → Kd.C (Kd.int .u8) w' (some ⟨x1, 0, none⟩) ia.length ia ∧ ia.length ≤ k1) ∧ (b 17 = true → Kd.C (Kd.int .u8) w' (some ⟨x2, 0, none⟩) ib.length ib ∧ ib.length ≤ k2) ∧ (b 19 = true → Kd.C (Kd.int .i64) w' (some ⟨x3, 0, none⟩) ([r1, r2, r3] : List Int).length [r1, r2, r3]) ∧ (b 14 = true → (m14_ : Value) = .slice (some ⟨x1, 0, none⟩) ia.length k1) ∧ (b 17 = true → (m17_ : Value) = .slice (some ⟨x2, 0, none⟩) ib.length k2) ∧ (b 19 = true → (m19_ : Value) = .slice (some ⟨x3, 0, none⟩) 3 3)) HT_.out HW_.out (by kernel_rfl) (by kernel_rfl) ?_ ?_ ?_
  · exact ⟨0, 0, 0, 0, 0, .bool false, .bool false, .bool false, by simp only [putSel, Bool.false_eq_true, if_false], HB.out, fun h_ => absurd h_ (by decide), fun h_ => absurd h_ (by decide), fun h_ => absurd h_ (by decide), fun h_ => absurd h_ (by decide), fun h_ => absurd h_ (by decide), fun h_ => absurd h_ (by decide)⟩
  · skip
    clear HB
    refine steps_cons ?_ ?_
    · rintro b a w' ⟨x1, k1, x2, k2, x3, m14_, m17_, m19_, ha, Q_HB, Q_B1, Q_B2, Q_B3, Q_X14_, Q_X17_, Q_X19_⟩ hb_ hon hoff
      refine ⟨_, rfl, fun K hK => ?_⟩
      have e6 : a.tmps[6]? = some (.pointer (some ⟨gA, 0, none⟩)) := by rw [ha]; exact (putSel_off rfl).trans rfl
      replace ha := Aside0.mk ha
      have HB := Aside0.mk Q_HB
      obtain ⟨ca0, ca1⟩ := box_cells (HA.out.below HB.out.b)
      refine value_ (w1 := w') (v := .slice A0 l0.length c0) (by rfl) rfl ?_ ?_
      · go_simp
        (try simp only [i64_w])
        try rfl
      refine hK.out _ _ ⟨x1, k1, x2, k2, x3, m14_, m17_, m19_, (by rw [ha.out]; exact putSel_upk 0 hb_ rfl rfl rfl), Q_HB, Q_B1, Q_B2, fun h0_ => absurd ((hoff 19 (by kernel_rfl)).symm.trans h0_) (by decide), Q_X14_, Q_X17_, fun h0_ => absurd ((hoff 19 (by kernel_rfl)).symm.trans h0_) (by decide)⟩
    refine steps_cons ?_ ?_
    · rintro b a w' ⟨x1, k1, x2, k2, x3, m14_, m17_, m19_, ha, Q_HB, Q_B1, Q_B2, Q_B3, Q_X14_, Q_X17_, Q_X19_⟩ hb_ hon hoff
      refine ⟨_, rfl, fun K hK => ?_⟩
      have e8 : a.tmps[8]? = some (.pointer (some ⟨gB, 0, none⟩)) := by rw [ha]; exact (putSel_off rfl).trans rfl
      replace ha := Aside0.mk ha
      have HB := Aside0.mk Q_HB
      obtain ⟨cb0, cb1⟩ := box_cells (HBB.out.below HB.out.b)
      refine value_ (w1 := w') (v := .slice A1 l1.length c1) (by rfl) rfl ?_ ?_
      · go_simp
        (try simp only [i64_w])
        try rfl
      refine hK.out _ _ ⟨x1, k1, x2, k2, x3, m14_, m17_, m19_, (by rw [ha.out]; exact putSel_upk 1 hb_ rfl rfl rfl), Q_HB, Q_B1, Q_B2, fun h0_ => absurd ((hoff 19 (by kernel_rfl)).symm.trans h0_) (by decide), Q_X14_, Q_X17_, fun h0_ => absurd ((hoff 19 (by kernel_rfl)).symm.trans h0_) (by decide)⟩
    refine steps_cons ?_ ?_
    · rintro b a w' ⟨x1, k1, x2, k2, x3, m14_, m17_, m19_, ha, Q_HB, Q_B1, Q_B2, Q_B3, Q_X14_, Q_X17_, Q_X19_⟩ hb_ hon hoff
      refine ⟨_, rfl, fun K hK => ?_⟩
      have e7 : a.tmps[7]? = some (.slice A0 l0.length c0) := by rw [ha]; exact putSel_on (e := (1, 7, .slice A0 l0.length c0)) 0 rfl rfl (hon 1 (by kernel_rfl)) rfl
      have e9 : a.tmps[9]? = some (.slice A1 l1.length c1) := by rw [ha]; exact putSel_on (e := (3, 9, .slice A1 l1.length c1)) 1 rfl rfl (hon 3 (by kernel_rfl)) rfl
      replace ha := Aside0.mk ha
      have HB := Aside0.mk Q_HB
      refine goes_ Tryz.func78 (by kernel_rfl) rfl #[.slice A0 l0.length c0, .slice A1 l1.length c1] (by rfl) rfl rfl (by first | (simp only [List.map_toArray, List.map_cons, List.map_nil, Act.eval, Array.getD_eq_getD_getElem?, Option.getD_some, e7, e9]; done) | (simp only [List.map_toArray, List.map_cons, List.map_nil, Act.eval, Array.getD_eq_getD_getElem?, Option.getD_some, e7, e9]; rfl)) ?_
      refine (HR1.out w' HB.out.b).mono ?_
      rintro e w2 ⟨rfl, hb2⟩
      refine ⟨_, rfl, ?_⟩
      refine hK.out _ _ ⟨x1, k1, x2, k2, x3, m14_, m17_, m19_, (by rw [ha.out]; exact putSel_upk 2 hb_ rfl rfl rfl), (HB.out.trans hb2), fun h0_ => ⟨Kd.C_below (Q_B1 h0_).1 hb2.b, (Q_B1 h0_).2⟩, fun h0_ => ⟨Kd.C_below (Q_B2 h0_).1 hb2.b, (Q_B2 h0_).2⟩, fun h0_ => absurd ((hoff 19 (by kernel_rfl)).symm.trans h0_) (by decide), Q_X14_, Q_X17_, fun h0_ => absurd ((hoff 19 (by kernel_rfl)).symm.trans h0_) (by decide)⟩
    refine steps_cons ?_ ?_
    · rintro b a w' ⟨x1, k1, x2, k2, x3, m14_, m17_, m19_, ha, Q_HB, Q_B1, Q_B2, Q_B3, Q_X14_, Q_X17_, Q_X19_⟩ hb_ hon hoff
      refine ⟨_, rfl, fun K hK => ?_⟩
      have e2 : a.tmps[2]? = some (.pointer (some ⟨gA, 0, none⟩)) := by rw [ha]; exact (putSel_off rfl).trans rfl
      replace ha := Aside0.mk ha
      have HB := Aside0.mk Q_HB
      obtain ⟨ca0, ca1⟩ := box_cells (HA.out.below HB.out.b)
      refine value_ (w1 := w') (v := .agg #[.slice A0 l0.length c0, .string sa]) (by rfl) rfl ?_ ?_
      · go_simp
        (try simp only [i64_w])
        try rfl
      refine hK.out _ _ ⟨x1, k1, x2, k2, x3, m14_, m17_, m19_, (by rw [ha.out]; exact putSel_upk 3 hb_ rfl rfl rfl), Q_HB, Q_B1, Q_B2, fun h0_ => absurd ((hoff 19 (by kernel_rfl)).symm.trans h0_) (by decide), Q_X14_, Q_X17_, fun h0_ => absurd ((hoff 19 (by kernel_rfl)).symm.trans h0_) (by decide)⟩
    refine steps_cons ?_ ?_
    · rintro b a w' ⟨x1, k1, x2, k2, x3, m14_, m17_, m19_, ha, Q_HB, Q_B1, Q_B2, Q_B3, Q_X14_, Q_X17_, Q_X19_⟩ hb_ hon hoff
      refine ⟨_, rfl, fun K hK => ?_⟩
      have e11 : a.tmps[11]? = some (.func (.func 76) #[] #[]) := by rw [ha]; exact (putSel_off rfl).trans rfl
      have e12 : a.tmps[12]? = some (.agg #[.slice A0 l0.length c0, .string sa]) := by rw [ha]; exact putSel_on (e := (6, 12, .agg #[.slice A0 l0.length c0, .string sa])) 3 rfl rfl (hon 6 (by kernel_rfl)) rfl
      replace ha := Aside0.mk ha
      have HB := Aside0.mk Q_HB
      refine goesV_ 11 (f := 76) Tryz.func76 (by kernel_rfl) rfl #[.agg #[.slice A0 l0.length c0, .string sa]] (by rfl) rfl rfl (by simp only [Act.eval, Array.getD_eq_getD_getElem?, Option.getD_some, e11]) (by first | (simp only [List.map_toArray, List.map_cons, List.map_nil, Act.eval, Array.getD_eq_getD_getElem?, Option.getD_some, e11, e12]; done) | (simp only [List.map_toArray, List.map_cons, List.map_nil, Act.eval, Array.getD_eq_getD_getElem?, Option.getD_some, e11, e12]; rfl)) ?_
      refine (HN1.out w').mono ?_
      rintro e w2 ⟨rfl, hb2⟩
      refine ⟨_, rfl, ?_⟩
      refine hK.out _ _ ⟨x1, k1, x2, k2, x3, m14_, m17_, m19_, (by rw [ha.out]; exact putSel_upk 4 hb_ rfl rfl rfl), (HB.out.trans hb2), fun h0_ => ⟨Kd.C_below (Q_B1 h0_).1 hb2.b, (Q_B1 h0_).2⟩, fun h0_ => ⟨Kd.C_below (Q_B2 h0_).1 hb2.b, (Q_B2 h0_).2⟩, fun h0_ => absurd ((hoff 19 (by kernel_rfl)).symm.trans h0_) (by decide), Q_X14_, Q_X17_, fun h0_ => absurd ((hoff 19 (by kernel_rfl)).symm.trans h0_) (by decide)⟩
    refine steps_cons ?_ ?_
    · rintro b a w' ⟨x1, k1, x2, k2, x3, m14_, m17_, m19_, ha, Q_HB, Q_B1, Q_B2, Q_B3, Q_X14_, Q_X17_, Q_X19_⟩ hb_ hon hoff
      refine ⟨_, rfl, fun K hK => ?_⟩
      have e3 : a.tmps[3]? = some (.pointer (some ⟨gB, 0, none⟩)) := by rw [ha]; exact (putSel_off rfl).trans rfl
      replace ha := Aside0.mk ha
      have HB := Aside0.mk Q_HB
      obtain ⟨cb0, cb1⟩ := box_cells (HBB.out.below HB.out.b)
      refine value_ (w1 := w') (v := .agg #[.slice A1 l1.length c1, .string sb]) (by rfl) rfl ?_ ?_
      · go_simp
        (try simp only [i64_w])
        try rfl
      refine hK.out _ _ ⟨x1, k1, x2, k2, x3, m14_, m17_, m19_, (by rw [ha.out]; exact putSel_upk 5 hb_ rfl rfl rfl), Q_HB, Q_B1, Q_B2, fun h0_ => absurd ((hoff 19 (by kernel_rfl)).symm.trans h0_) (by decide), Q_X14_, Q_X17_, fun h0_ => absurd ((hoff 19 (by kernel_rfl)).symm.trans h0_) (by decide)⟩
    refine steps_cons ?_ ?_
    · rintro b a w' ⟨x1, k1, x2, k2, x3, m14_, m17_, m19_, ha, Q_HB, Q_B1, Q_B2, Q_B3, Q_X14_, Q_X17_, Q_X19_⟩ hb_ hon hoff
      refine ⟨_, rfl, fun K hK => ?_⟩
      have e14 : a.tmps[14]? = some (.func (.func 76) #[] #[]) := by rw [ha]; exact (putSel_off rfl).trans rfl
      have e15 : a.tmps[15]? = some (.agg #[.slice A1 l1.length c1, .string sb]) := by rw [ha]; exact putSel_on (e := (9, 15, .agg #[.slice A1 l1.length c1, .string sb])) 5 rfl rfl (hon 9 (by kernel_rfl)) rfl
      replace ha := Aside0.mk ha
      have HB := Aside0.mk Q_HB
      refine goesV_ 14 (f := 76) Tryz.func76 (by kernel_rfl) rfl #[.agg #[.slice A1 l1.length c1, .string sb]] (by rfl) rfl rfl (by simp only [Act.eval, Array.getD_eq_getD_getElem?, Option.getD_some, e14]) (by first | (simp only [List.map_toArray, List.map_cons, List.map_nil, Act.eval, Array.getD_eq_getD_getElem?, Option.getD_some, e14, e15]; done) | (simp only [List.map_toArray, List.map_cons, List.map_nil, Act.eval, Array.getD_eq_getD_getElem?, Option.getD_some, e14, e15]; rfl)) ?_
      refine (HN2.out w').mono ?_
      rintro e w2 ⟨rfl, hb2⟩
      refine ⟨_, rfl, ?_⟩
      refine hK.out _ _ ⟨x1, k1, x2, k2, x3, m14_, m17_, m19_, (by rw [ha.out]; exact putSel_upk 6 hb_ rfl rfl rfl), (HB.out.trans hb2), fun h0_ => ⟨Kd.C_below (Q_B1 h0_).1 hb2.b, (Q_B1 h0_).2⟩, fun h0_ => ⟨Kd.C_below (Q_B2 h0_).1 hb2.b, (Q_B2 h0_).2⟩, fun h0_ => absurd ((hoff 19 (by kernel_rfl)).symm.trans h0_) (by decide), Q_X14_, Q_X17_, fun h0_ => absurd ((hoff 19 (by kernel_rfl)).symm.trans h0_) (by decide)⟩
    refine steps_cons ?_ ?_
    · rintro b a w' ⟨x1, k1, x2, k2, x3, m14_, m17_, m19_, ha, Q_HB, Q_B1, Q_B2, Q_B3, Q_X14_, Q_X17_, Q_X19_⟩ hb_ hon hoff
      refine ⟨_, rfl, fun K hK => ?_⟩
      have e13 : a.tmps[13]? = some (.int .i64 n1) := by rw [ha]; exact putSel_on (e := (7, 13, .int .i64 n1)) 4 rfl rfl (hon 7 (by kernel_rfl)) rfl
      have e16 : a.tmps[16]? = some (.int .i64 n2) := by rw [ha]; exact putSel_on (e := (10, 16, .int .i64 n2)) 6 rfl rfl (hon 10 (by kernel_rfl)) rfl
      replace ha := Aside0.mk ha
      have HB := Aside0.mk Q_HB
      refine goes_ Tryz.func79 (by kernel_rfl) rfl #[.int .i64 n1, .int .i64 n2] (by rfl) rfl rfl (by first | (simp only [List.map_toArray, List.map_cons, List.map_nil, Act.eval, Array.getD_eq_getD_getElem?, Option.getD_some, e13, e16]; done) | (simp only [List.map_toArray, List.map_cons, List.map_nil, Act.eval, Array.getD_eq_getD_getElem?, Option.getD_some, e13, e16]; rfl)) ?_
      refine (HR2.out w').mono ?_
      rintro e w2 ⟨rfl, hb2⟩
      refine ⟨_, rfl, ?_⟩
      refine hK.out _ _ ⟨x1, k1, x2, k2, x3, m14_, m17_, m19_, (by rw [ha.out]; exact putSel_upk 7 hb_ rfl rfl rfl), (HB.out.trans hb2), fun h0_ => ⟨Kd.C_below (Q_B1 h0_).1 hb2.b, (Q_B1 h0_).2⟩, fun h0_ => ⟨Kd.C_below (Q_B2 h0_).1 hb2.b, (Q_B2 h0_).2⟩, fun h0_ => absurd ((hoff 19 (by kernel_rfl)).symm.trans h0_) (by decide), Q_X14_, Q_X17_, fun h0_ => absurd ((hoff 19 (by kernel_rfl)).symm.trans h0_) (by decide)⟩
    refine steps_cons ?_ ?_
    · rintro b a w' ⟨x1, k1, x2, k2, x3, m14_, m17_, m19_, ha, Q_HB, Q_B1, Q_B2, Q_B3, Q_X14_, Q_X17_, Q_X19_⟩ hb_ hon hoff
      refine ⟨_, rfl, fun K hK => ?_⟩
      have e18 : a.tmps[18]? = some (.pointer (some ⟨gA, 1, none⟩)) := by rw [ha]; exact (putSel_off rfl).trans rfl
      replace ha := Aside0.mk ha
      have HB := Aside0.mk Q_HB
      obtain ⟨ca0, ca1⟩ := box_cells (HA.out.below HB.out.b)
      refine value_ (w1 := w') (v := .string sa) (by rfl) rfl ?_ ?_
      · go_simp
        (try simp only [i64_w])
        try rfl
      refine hK.out _ _ ⟨x1, k1, x2, k2, x3, m14_, m17_, m19_, (by rw [ha.out]; exact putSel_upk 8 hb_ rfl rfl rfl), Q_HB, fun h0_ => absurd ((hoff 14 (by kernel_rfl)).symm.trans h0_) (by decide), Q_B2, fun h0_ => absurd ((hoff 19 (by kernel_rfl)).symm.trans h0_) (by decide), fun h0_ => absurd ((hoff 14 (by kernel_rfl)).symm.trans h0_) (by decide), Q_X17_, fun h0_ => absurd ((hoff 19 (by kernel_rfl)).symm.trans h0_) (by decide)⟩
    refine steps_cons ?_ ?_
    · rintro b a w' ⟨x1, k1, x2, k2, x3, m14_, m17_, m19_, ha, Q_HB, Q_B1, Q_B2, Q_B3, Q_X14_, Q_X17_, Q_X19_⟩ hb_ hon hoff
      refine ⟨_, rfl, fun K hK => ?_⟩
      have e19 : a.tmps[19]? = some (.string sa) := by rw [ha]; exact putSel_on (e := (13, 19, .string sa)) 8 rfl rfl (hon 13 (by kernel_rfl)) rfl
      replace ha := Aside0.mk ha
      have HB := Aside0.mk Q_HB
      have hcv := Lib.run_convert_string_bytes (P := Tryz.prog) w' 9 56 5 sa (u := .string) Tryz.underlying9 Tryz.underlying56 Tryz.underlying5
      have hb2 := (GB.refl w').bytes 5 sa
      refine value_ (w1 := Lib.bytesWorld w' 5 sa) (v := .slice (some ⟨w'.heap.size, 0, none⟩) ia.length (grownCap w' sa.size 0 5)) (by rfl) rfl ?_ ?_
      · rw [← E_ia.out]
        go_simp
      refine hK.out _ _ ⟨w'.heap.size, (grownCap w' sa.size 0 5), x2, k2, x3, (.slice (some ⟨w'.heap.size, 0, none⟩) ia.length (grownCap w' sa.size 0 5)), m17_, m19_, (by rw [ha.out]; exact putSel_upk 9 hb_ rfl rfl rfl), (HB.out.trans hb2), fun _ => (conv_row w' 5 sa ia E_ia.out Q_ia.out L_ia.out), fun h0_ => ⟨Kd.C_below (Q_B2 h0_).1 hb2.b, (Q_B2 h0_).2⟩, fun h0_ => absurd ((hoff 19 (by kernel_rfl)).symm.trans h0_) (by decide), fun _ => rfl, Q_X17_, fun h0_ => absurd ((hoff 19 (by kernel_rfl)).symm.trans h0_) (by decide)⟩
    refine steps_cons ?_ ?_
    · rintro b a w' ⟨x1, k1, x2, k2, x3, m14_, m17_, m19_, ha, Q_HB, Q_B1, Q_B2, Q_B3, Q_X14_, Q_X17_, Q_X19_⟩ hb_ hon hoff
      refine ⟨_, rfl, fun K hK => ?_⟩
      have e21 : a.tmps[21]? = some (.pointer (some ⟨gB, 1, none⟩)) := by rw [ha]; exact (putSel_off rfl).trans rfl
      replace ha := Aside0.mk ha
      have HB := Aside0.mk Q_HB
      obtain ⟨cb0, cb1⟩ := box_cells (HBB.out.below HB.out.b)
      refine value_ (w1 := w') (v := .string sb) (by rfl) rfl ?_ ?_
      · go_simp
        (try simp only [i64_w])
        try rfl
      refine hK.out _ _ ⟨x1, k1, x2, k2, x3, m14_, m17_, m19_, (by rw [ha.out]; exact putSel_upk 10 hb_ rfl rfl rfl), Q_HB, Q_B1, fun h0_ => absurd ((hoff 17 (by kernel_rfl)).symm.trans h0_) (by decide), fun h0_ => absurd ((hoff 19 (by kernel_rfl)).symm.trans h0_) (by decide), Q_X14_, fun h0_ => absurd ((hoff 17 (by kernel_rfl)).symm.trans h0_) (by decide), fun h0_ => absurd ((hoff 19 (by kernel_rfl)).symm.trans h0_) (by decide)⟩
    refine steps_cons ?_ ?_
    · rintro b a w' ⟨x1, k1, x2, k2, x3, m14_, m17_, m19_, ha, Q_HB, Q_B1, Q_B2, Q_B3, Q_X14_, Q_X17_, Q_X19_⟩ hb_ hon hoff
      refine ⟨_, rfl, fun K hK => ?_⟩
      have e22 : a.tmps[22]? = some (.string sb) := by rw [ha]; exact putSel_on (e := (16, 22, .string sb)) 10 rfl rfl (hon 16 (by kernel_rfl)) rfl
      replace ha := Aside0.mk ha
      have HB := Aside0.mk Q_HB
      have hcv := Lib.run_convert_string_bytes (P := Tryz.prog) w' 9 56 5 sb (u := .string) Tryz.underlying9 Tryz.underlying56 Tryz.underlying5
      have hb2 := (GB.refl w').bytes 5 sb
      refine value_ (w1 := Lib.bytesWorld w' 5 sb) (v := .slice (some ⟨w'.heap.size, 0, none⟩) ib.length (grownCap w' sb.size 0 5)) (by rfl) rfl ?_ ?_
      · rw [← E_ib.out]
        go_simp
      refine hK.out _ _ ⟨x1, k1, w'.heap.size, (grownCap w' sb.size 0 5), x3, m14_, (.slice (some ⟨w'.heap.size, 0, none⟩) ib.length (grownCap w' sb.size 0 5)), m19_, (by rw [ha.out]; exact putSel_upk 11 hb_ rfl rfl rfl), (HB.out.trans hb2), fun h0_ => ⟨Kd.C_below (Q_B1 h0_).1 hb2.b, (Q_B1 h0_).2⟩, fun _ => (conv_row w' 5 sb ib E_ib.out Q_ib.out L_ib.out), fun h0_ => absurd ((hoff 19 (by kernel_rfl)).symm.trans h0_) (by decide), Q_X14_, fun _ => rfl, fun h0_ => absurd ((hoff 19 (by kernel_rfl)).symm.trans h0_) (by decide)⟩
    refine steps_cons ?_ ?_
    · rintro b a w' ⟨x1, k1, x2, k2, x3, m14_, m17_, m19_, ha, Q_HB, Q_B1, Q_B2, Q_B3, Q_X14_, Q_X17_, Q_X19_⟩ hb_ hon hoff
      refine ⟨_, rfl, fun K hK => ?_⟩
      have e20 : a.tmps[20]? = some (m14_) := by rw [ha]; exact putSel_on (e := (14, 20, m14_)) 9 rfl rfl (hon 14 (by kernel_rfl)) rfl
      rw [Q_X14_ (hon 14 (by kernel_rfl))] at e20
      have e23 : a.tmps[23]? = some (m17_) := by rw [ha]; exact putSel_on (e := (17, 23, m17_)) 11 rfl rfl (hon 17 (by kernel_rfl)) rfl
      rw [Q_X17_ (hon 17 (by kernel_rfl))] at e23
      replace ha := Aside0.mk ha
      have HB := Aside0.mk Q_HB
      have B1 := Aside0.mk (Q_B1 (hon 14 (by kernel_rfl)))
      have B2 := Aside0.mk (Q_B2 (hon 17 (by kernel_rfl)))
      refine goes_ Tryz.func80 (by kernel_rfl) rfl #[.slice (some ⟨x1, 0, none⟩) ia.length k1, .slice (some ⟨x2, 0, none⟩) ib.length k2] (by rfl) rfl rfl (by first | (simp only [List.map_toArray, List.map_cons, List.map_nil, Act.eval, Array.getD_eq_getD_getElem?, Option.getD_some, e20, e23]; done) | (simp only [List.map_toArray, List.map_cons, List.map_nil, Act.eval, Array.getD_eq_getD_getElem?, Option.getD_some, e20, e23]; rfl)) ?_
      refine (HR3.out w' _ _ _ _ B1.out B2.out).mono ?_
      rintro e w2 ⟨rfl, hb2⟩
      refine ⟨_, rfl, ?_⟩
      refine hK.out _ _ ⟨x1, k1, x2, k2, x3, m14_, m17_, m19_, (by rw [ha.out]; exact putSel_upk 12 hb_ rfl rfl rfl), (HB.out.trans hb2), fun _ => ⟨Kd.C_below B1.out.1 hb2.b, B1.out.2⟩, fun _ => ⟨Kd.C_below B2.out.1 hb2.b, B2.out.2⟩, fun h0_ => absurd ((hoff 19 (by kernel_rfl)).symm.trans h0_) (by decide), Q_X14_, Q_X17_, fun h0_ => absurd ((hoff 19 (by kernel_rfl)).symm.trans h0_) (by decide)⟩
    refine steps_cons ?_ ?_
    · rintro b a w' ⟨x1, k1, x2, k2, x3, m14_, m17_, m19_, ha, Q_HB, Q_B1, Q_B2, Q_B3, Q_X14_, Q_X17_, Q_X19_⟩ hb_ hon hoff
      refine ⟨_, rfl, fun K hK => ?_⟩
      have e10 : a.tmps[10]? = some (.int .i64 r1) := by rw [ha]; exact putSel_on (e := (4, 10, .int .i64 r1)) 2 rfl rfl (hon 4 (by kernel_rfl)) rfl
      have e17 : a.tmps[17]? = some (.int .i64 r2) := by rw [ha]; exact putSel_on (e := (11, 17, .int .i64 r2)) 7 rfl rfl (hon 11 (by kernel_rfl)) rfl
      have e24 : a.tmps[24]? = some (.int .i64 r3) := by rw [ha]; exact putSel_on (e := (18, 24, .int .i64 r3)) 12 rfl rfl (hon 18 (by kernel_rfl)) rfl
      replace ha := Aside0.mk ha
      have HB := Aside0.mk Q_HB
      have B1 := Aside0.mk (Q_B1 (hon 14 (by kernel_rfl)))
      have B2 := Aside0.mk (Q_B2 (hon 17 (by kernel_rfl)))
      have hb2 := (GB.refl w').alloc (.cells #[.int .i64 r1, .int .i64 r2, .int .i64 r3] 3)
      refine value_ (w1 := w'.alloc (.cells #[.int .i64 r1, .int .i64 r2, .int .i64 r3] 3)) (v := .slice (some ⟨w'.heap.size, 0, none⟩) 3 3) (by rfl) rfl ?_ ?_
      · go_simp
        try rfl
      refine hK.out _ _ ⟨x1, k1, x2, k2, w'.heap.size, m14_, m17_, (.slice (some ⟨w'.heap.size, 0, none⟩) 3 3), (by rw [ha.out]; exact putSel_upk 13 hb_ rfl rfl rfl), (HB.out.trans hb2), fun _ => ⟨Kd.C_below B1.out.1 hb2.b, B1.out.2⟩, fun _ => ⟨Kd.C_below B2.out.1 hb2.b, B2.out.2⟩, fun _ => (alloc_intsV w' 3 [r1, r2, r3] (by simp)), Q_X14_, Q_X17_, fun _ => rfl⟩
    refine steps_cons ?_ ?_
    · rintro b a w' ⟨x1, k1, x2, k2, x3, m14_, m17_, m19_, ha, Q_HB, Q_B1, Q_B2, Q_B3, Q_X14_, Q_X17_, Q_X19_⟩ hb_ hon hoff
      refine ⟨_, rfl, fun K hK => ?_⟩
      have e25 : a.tmps[25]? = some (m19_) := by rw [ha]; exact putSel_on (e := (19, 25, m19_)) 13 rfl rfl (hon 19 (by kernel_rfl)) rfl
      rw [Q_X19_ (hon 19 (by kernel_rfl))] at e25
      replace ha := Aside0.mk ha
      have HB := Aside0.mk Q_HB
      have B1 := Aside0.mk (Q_B1 (hon 14 (by kernel_rfl)))
      have B2 := Aside0.mk (Q_B2 (hon 17 (by kernel_rfl)))
      have B3 := Aside0.mk (Q_B3 (hon 19 (by kernel_rfl)))
      refine goes_ Tryz.func77 (by kernel_rfl) rfl #[.slice (some ⟨x3, 0, none⟩) 3 3] (by rfl) rfl rfl (by first | (simp only [List.map_toArray, List.map_cons, List.map_nil, Act.eval, Array.getD_eq_getD_getElem?, Option.getD_some, e25]; done) | (simp only [List.map_toArray, List.map_cons, List.map_nil, Act.eval, Array.getD_eq_getD_getElem?, Option.getD_some, e25]; rfl)) ?_
      refine (HR4.out w' _ B3.out).mono ?_
      rintro e w2 ⟨rfl, hb2⟩
      refine ⟨_, rfl, ?_⟩
      refine hK.out _ _ ⟨x1, k1, x2, k2, x3, m14_, m17_, m19_, (by rw [ha.out]; exact putSel_upk 14 hb_ rfl rfl rfl), (HB.out.trans hb2), fun _ => ⟨Kd.C_below B1.out.1 hb2.b, B1.out.2⟩, fun _ => ⟨Kd.C_below B2.out.1 hb2.b, B2.out.2⟩, fun _ => (Kd.C_below B3.out hb2.b), Q_X14_, Q_X17_, Q_X19_⟩
    refine steps_cons ?_ ?_
    · rintro b a w' ⟨x1, k1, x2, k2, x3, m14_, m17_, m19_, ha, Q_HB, Q_B1, Q_B2, Q_B3, Q_X14_, Q_X17_, Q_X19_⟩ hb_ hon hoff
      refine ⟨_, rfl, fun K hK => ?_⟩
      have e26 : a.tmps[26]? = some (.int .i64 rr) := by rw [ha]; exact putSel_on (e := (20, 26, .int .i64 rr)) 14 rfl rfl (hon 20 (by kernel_rfl)) rfl
      replace ha := Aside0.mk ha
      have HB := Aside0.mk Q_HB
      have B1 := Aside0.mk (Q_B1 (hon 14 (by kernel_rfl)))
      have B2 := Aside0.mk (Q_B2 (hon 17 (by kernel_rfl)))
      have B3 := Aside0.mk (Q_B3 (hon 19 (by kernel_rfl)))
      refine value_ (w1 := w') (v := .int .i64 rr) (by rfl) rfl ?_ ?_
      · go_simp
        (try simp only [i64_w])
        try rfl
      refine hK.out _ _ ⟨x1, k1, x2, k2, x3, m14_, m17_, m19_, (by rw [ha.out]; exact putSel_upk 15 hb_ rfl rfl rfl), Q_HB, Q_B1, Q_B2, Q_B3, Q_X14_, Q_X17_, Q_X19_⟩
    exact steps_nil
  rintro b a w' hall ⟨x1, k1, x2, k2, x3, m14_, m17_, m19_, ha, Q_HB, Q_B1, Q_B2, Q_B3, Q_X14_, Q_X17_, Q_X19_⟩
  clear HB
  have hb1_ := hall 1 (by kernel_rfl)
  have hb3_ := hall 3 (by kernel_rfl)
  have hb4_ := hall 4 (by kernel_rfl)
  have hb6_ := hall 6 (by kernel_rfl)
  have hb7_ := hall 7 (by kernel_rfl)
  have hb9_ := hall 9 (by kernel_rfl)
  have hb10_ := hall 10 (by kernel_rfl)
  have hb11_ := hall 11 (by kernel_rfl)
  have hb13_ := hall 13 (by kernel_rfl)
  have hb14_ := hall 14 (by kernel_rfl)
  have hb16_ := hall 16 (by kernel_rfl)
  have hb17_ := hall 17 (by kernel_rfl)
  have hb18_ := hall 18 (by kernel_rfl)
  have hb19_ := hall 19 (by kernel_rfl)
  have hb20_ := hall 20 (by kernel_rfl)
  have hb21_ := hall 21 (by kernel_rfl)
  subst ha
  obtain rfl := Q_X14_ hb14_
  obtain rfl := Q_X17_ hb17_
  obtain rfl := Q_X19_ hb19_
  simp only [putSel, hb1_, hb3_, hb4_, hb6_, hb7_, hb9_, hb10_, hb11_, hb13_, hb14_, hb16_, hb17_, hb18_, hb19_, hb20_, hb21_, if_true, Act.put, List.setIfInBounds_toArray, List.set_cons_zero, List.set_cons_succ]
  have HB := Aside0.mk Q_HB
  clear Q_HB
  have B1 := Aside0.mk (Q_B1 hb14_)
  clear Q_B1
  have B2 := Aside0.mk (Q_B2 hb17_)
  clear Q_B2
  have B3 := Aside0.mk (Q_B3 hb19_)
  clear Q_B3
  clear hall hb1_ hb3_ hb4_ hb6_ hb7_ hb9_ hb10_ hb11_ hb13_ hb14_ hb16_ hb17_ hb18_ hb19_ hb20_ hb21_
  go_wp2_with fail
  go_ret
  subst hGA
  exact ⟨rfl, HWD.out.trans HB.out⟩
/-- In the print's own form. -/
theorem version_Compare.calls (A0_0 : Option Addr) (c0_0 : Nat) (l0_0 : List Int) (a0_1 : ByteArray) (A1_0 : Option Addr) (c1_0 : Nat) (l1_0 : List Int) (a1_1 : ByteArray) (r : Int) (w : World) (hr0_0 : Kd.C (Kd.int .i64) w A0_0 l0_0.length l0_0) (hc0_0 : l0_0.length ≤ c0_0) (hr1_0 : Kd.C (Kd.int .i64) w A1_0 l1_0.length l1_0) (hc1_0 : l1_0.length ≤ c1_0) (h : version_Compare.f l0_0 a0_1 l1_0 a1_1 = some r) :
    Calls Tryz.prog 45 #[.agg #[.slice A0_0 l0_0.length c0_0, .string a0_1], .agg #[.slice A1_0 l1_0.length c1_0, .string a1_1]] w fun e w' => e = .returned (.int .i64 r) ∧ Below w.heap.size w w' := by
  unfold version_Compare.f at h
  split at h
  · rename_i hh
    cases h
    exact (Compare_G A0_0 A1_0 c0_0 c1_0 l0_0 l1_0 a0_1 a1_1 w hr0_0 hc0_0 hr1_0 hc1_0 hh.1 hh.2.1 hh.2.2.1 hh.2.2.2).mono fun _ _ h => ⟨h.1, h.2.b⟩
  · cases h
end Go.Proofs.YtnbmdecehlljcaaGreatDoor
namespace Go.Proofs.YtnbmdecehlljcaaGreatDoor
open Go.Shelf Go.RowKit Go.Sort Go.Lib Go.Proofs.YtnbmdecehlljcaaGreatDoorW.PrintWords Go.Proofs.YtnbmdecehlljcaaGreatDoorW.PrintMore
set_option linter.unusedVariables false
set_option linter.unusedSimpArgs false
attribute [local go_sem] isSome_setCellV
end Go.Proofs.YtnbmdecehlljcaaGreatDoor
namespace Go.Proofs.YtnbmdecehlljcaaGreatDoor
open Go.Shelf Go.RowKit Go.Sort Go.Lib Go.Proofs.YtnbmdecehlljcaaGreatDoorW.PrintWords Go.Proofs.YtnbmdecehlljcaaGreatDoorW.PrintMore
set_option linter.unusedVariables false
set_option linter.unusedSimpArgs false
section
variable {α : Type} [Inhabited α] (enc : α → Value)
end
/-- The texts that are versions, and not too long. -/
def VText : Type := { s : ByteArray // okT s = true ∧ s.size < 1000000 }
theorem okT_one : okT ⟨(printV [1] []).toArray⟩ = true := by
  unfold okT
  show (parseV (printV [1] [])).isSome = true
  rw [parseV_print (by decide)]
  rfl
instance : Inhabited VText := ⟨⟨⟨(printV [1] []).toArray⟩, okT_one, by
  have : printV [1] [] = decDigits 1 := by simp [printV, joinOn]
  rw [this, decDigits_one (by omega)]
  simp [ByteArray.size]⟩⟩
end Go.Proofs.YtnbmdecehlljcaaGreatDoor
namespace Go.Proofs.YtnbmdecehlljcaaGreatDoor
open Go.RowKit Go.Lib Go.Proofs.YtnbmdecehlljcaaGreatDoorW.PrintWords Go.Proofs.YtnbmdecehlljcaaGreatDoorW.PrintLast Go.Proofs.YtnbmdecehlljcaaGreatDoorW.PrintMore
set_option linter.unusedVariables false
set_option linter.unusedSimpArgs false
theorem join_joinOn (c : UInt8) : ∀ ps : List (List UInt8), Lib.join ps [c] = joinOn c ps
  | [] => rfl
  | [p] => by rw [join_one]; rfl
  | p :: q :: r => by
    have ih := join_joinOn c (q :: r)
    show _ = p ++ c :: joinOn c (q :: r)
    rw [← ih]
    simp [Lib.join, List.intercalate]
end Go.Proofs.YtnbmdecehlljcaaGreatDoor
namespace Go.Proofs.YtnbmdecehlljcaaGreatDoor
open Go.Shelf Go.RowKit Go.Sort Go.Lib Go.Proofs.YtnbmdecehlljcaaGreatDoorW.PrintWords Go.Proofs.YtnbmdecehlljcaaGreatDoorW.PrintMore
set_option linter.unusedVariables false
set_option linter.unusedSimpArgs false
/-- The same, to be reckoned with. -/
def partsC : List (List UInt8) → Option (List Int)
  | [] => some []
  | p :: r => if canonB p = true then (match partsC r with | none => none | some l => some ((valF 0 p : Int) :: l)) else none
theorem partsC_eq : ∀ ps, partsNums ps = partsC ps
  | [] => rfl
  | p :: r => by
    unfold partsNums partsC
    rw [progNum_eq, partsC_eq r]
    by_cases h : canonB p = true
    · rw [if_pos h, if_pos h]
      rfl
    · rw [if_neg h, if_neg h]
def parseC (l : List UInt8) : Option (List Int × List UInt8) :=
  if ((cutOn 45 l).2.2 && (cutOn 45 l).2.1.isEmpty || !tagB (cutOn 45 l).2.1) = true then none
  else if 8 < (splitOn 46 (cutOn 45 l).1).length then none
  else match partsC (splitOn 46 (cutOn 45 l).1) with
    | none => none
    | some ns => some (ns, (cutOn 45 l).2.1)
theorem parseC_eq (l : List UInt8) : parseV l = parseC l := by
  unfold parseV parseC
  rw [partsC_eq]
  rfl
theorem lit_stringsV {W : World} {b : Nat} {t : TypeId} {fr : Nat × Nat} (xs : List ByteArray) (h : W.heap[b]? = some (.cells (xs.map Value.string).toArray t fr)) (hl : xs.length ≤ 9223372036854775807) : Kd.C Kd.string W (some ⟨b, 0, none⟩) xs.length xs := by
  refine ⟨rfl, hl, fun _ => ⟨_, rfl, fun j p hp => ⟨[.string p], rfl, rfl, fun i u hu => ?_⟩⟩⟩
  have hi : i = 0 := by
    rcases i with _ | i
    · rfl
    · simp at hu
  subst hi
  have e : u = .string p := by simpa using hu.symm
  subst e
  have e2 : (⟨b, 0, none⟩ : Addr).add (j * 1 + 0) = ⟨b, j, none⟩ := by simp only [Addr.add, Nat.mul_one, Nat.add_zero, Nat.zero_add]; try (split <;> simp_all)
  show W.cell? ((⟨b, 0, none⟩ : Addr).add (j * 1 + 0)) = _
  rw [e2]
  simp [World.cell?, h, hp]
end Go.Proofs.YtnbmdecehlljcaaGreatDoor
