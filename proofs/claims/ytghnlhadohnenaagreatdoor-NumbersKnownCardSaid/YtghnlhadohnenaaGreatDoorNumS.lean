/- The reference's value: the walk. -/
import Derived.Test.YtghnlhadohnenaaGreatDoorNumR
namespace Go.Proofs.YtghnlhadohnenaaGreatDoor
set_option exponentiation.threshold 3000
open Go.Shelf Go.RowKit Go.Proofs.YtghnlhadohnenaaGreatDoorW.PrintWords Go.Proofs.YtghnlhadohnenaaGreatDoorW.PrintLast Go.Proofs.YtghnlhadohnenaaGreatDoorW.PrintMore
open Go.Lib (decDigits nDigits)
set_option linter.unusedVariables false
set_option linter.unusedSimpArgs false
/-- What value answers. -/
def ValE (s : ByteArray) (w : World) (e : Ending) (w' : World) : Prop := ∃ r, e = .returned (.float .f64 r) ∧ ValW s.data.toList r ∧ Below w.heap.size w w'
set_option maxHeartbeats 1000000 in
set_option maxRecDepth 100000 in
theorem value_nil (s : ByteArray) (hs : s.size = 0) (w : World) : Calls Tryz.prog 57 #[.string s] w (ValE s w) := by
  have hne : s.toList = [] := by
    rw [Lib.toList_data]
    have := Lib.size_eq s
    exact List.eq_nil_of_length_eq_zero (by omega)
  obtain ⟨x, hx, hx1, _⟩ := ofInt_num (0 : Int)
  have HX := Aside0.mk (show ValW s.data.toList x by rw [← Lib.toList_data, hne]; exact valW_nil hx1)
  have hN := number_any ByteArray.empty (by decide)
  rw [show (ByteArray.empty).data.toList = [] from rfl, show numF [] = (0, false) from rfl] at hN
  have HN := Aside0.mk hN
  clear hN hx1
  go_enter Tryz.func57, Tryz.ntmps57
  go_wp2
  go_loopg [5] 0 (fun gg s5 wr => s5 = .int .i64 0 ∧ wr = w)
  case atStart => exact ⟨rfl, rfl⟩
  case round =>
    obtain ⟨rfl, hw_⟩ := hrel
    obtain rfl := hw_.symm
    go_wp2_with (go_at_call 77; refine (HN.out _).mono ?_; rintro e w1 ⟨rfl, hb⟩; have HB1 := Aside0.mk hb; clear hb)
    go_ret
    exact ⟨x, rfl, HX.out, HB1.out⟩
set_option maxHeartbeats 1000000 in
set_option maxRecDepth 100000 in
theorem value_nan (s : ByteArray) (c1 : s.toList = [110, 97, 110]) (w : World) : Calls Tryz.prog 57 #[.string s] w (ValE s w) := by
  obtain ⟨r0, h1, h2, hop⟩ := nan_draw .quo (by simp) 0 0 zero_quoR w
  have HV : Aside0 (ValW s.data.toList r0) := Aside0.mk ⟨h1, fun y hy he => .inr ⟨h2, text_nan (by rw [he, ← Lib.toList_data]; exact c1)⟩⟩
  go_enter Tryz.func57, Tryz.ntmps57
  go_wp2_with (simp only [hop])
  go_ret
  exact ⟨r0, rfl, HV.out, (Below.refl _ _).drew⟩
theorem ne_empty {s : ByteArray} (h : 0 < s.size) : s.toList ≠ [] ∧ s.toList.isEmpty = false := by
  have hsl := Lib.size_eq s
  have : s.toList ≠ [] := by
    rw [Lib.toList_data]
    intro h
    have : s.size = 0 := by rw [hsl, h]; rfl
    omega
  refine ⟨this, ?_⟩
  cases h : s.toList with
  | nil => exact absurd h this
  | cons _ _ => rfl
theorem byte0 {s : ByteArray} (hp : 0 < s.size) (b : Bool) (h : (bt s 0 == 45) = b) : ((((s[0]'hp).toNat : Nat) : Int) == 45) = b := by
  unfold bt at h
  rw [dif_pos (by simpa using hp)] at h
  simpa using h
set_option maxHeartbeats 1000000 in
set_option maxRecDepth 100000 in
theorem value_neg (s : ByteArray) (hpos : 0 < s.size) (c1 : s.toList ≠ [110, 97, 110]) (c2 : bt s 0 = 45) (hI : ∀ w, Calls Tryz.prog 57 #[.string (s.extract 1 s.size)] w (ValE (s.extract 1 s.size) w)) (w : World) : Calls Tryz.prog 57 #[.string s] w (ValE s w) := by
  obtain ⟨hne, hne2⟩ := ne_empty hpos
  have c1b : (s.toList == [110, 97, 110]) = false := by simpa using c1
  have c2c := byte0 hpos true (by rw [c2]; rfl)
  have HI := Aside0.mk hI
  have HS45 := Aside0.mk (cons_of hpos c2)
  clear hI c2
  go_enter Tryz.func57, Tryz.ntmps57
  go_wp2_with (first | (go_at_call 57; refine (HI.out _).mono ?_; rintro e w1 ⟨r1, rfl, hV, hb⟩; have HNG := Aside0.mk (run_neg_float r1 hV.1); have HV := Aside0.mk hV; have HB := Aside0.mk hb; clear hV hb) | simp only [HNG.out])
  go_ret
  refine ⟨_, rfl, ⟨wd_lt (rk_lt r1), fun y hy he => ?_⟩, HB.out⟩
  rw [HS45.out] at he
  obtain ⟨k1, k2, k3⟩ := text_neg he
  have k4 : textW (rk y) = (s.extract 1 s.size).data.toList := by unfold textW; rw [nan_rk, k1, sb_rk, rk_rk]; exact k3
  rcases HV.out.2 (rk y) (rk_lt64 y) k4 with h | h
  · refine .inl ?_
    rw [h, sb_rk, rk_rk]
    have := wd_eq hy
    rw [k2] at this
    exact this.symm
  · rw [nan_rk, k1] at h
    cases h.2
set_option maxHeartbeats 1000000 in
set_option maxRecDepth 100000 in
theorem value_inf (s : ByteArray) (hpos : 0 < s.size) (c2 : bt s 0 ≠ 45) (c3 : s.toList = [105, 110, 102]) (w : World) : Calls Tryz.prog 57 #[.string s] w (ValE s w) := by
  obtain ⟨hne, hne2⟩ := ne_empty hpos
  have c1b : (s.toList == [110, 97, 110]) = false := by rw [c3]; decide
  have c2c := byte0 hpos false (by simpa using c2)
  have c3b : (s.toList == [105, 110, 102]) = true := by simpa using c3
  have hop : ∀ t w, (binOp .quo t (.float .f64 4607182418800017408) (.float .f64 0)).run Tryz.prog w = .ok (.float .f64 topR) w := fun t w => run_float_arith w .quo t .f64 _ _ _ (one_quo false)
  have HV : Aside0 (ValW s.data.toList topR) := Aside0.mk ⟨by decide, fun y hy he => .inl (by
    rw [← Lib.toList_data, c3] at he
    exact text_inf hy he)⟩
  clear c2 c3
  go_enter Tryz.func57, Tryz.ntmps57
  go_wp2_with (simp only [hop])
  go_ret
  exact ⟨topR, rfl, HV.out, Below.refl _ _⟩
/-- What is left of value behind the loop that looks for the p, at the place i. -/
def RestV (s : ByteArray) (i : Nat) : Prop := AtP s.data.toList i
theorem no_p {s : ByteArray} {i : Nat} (h : i < s.size) (hn : (112 : UInt8) ∉ s.data.toList.take i) (hb : s[i].toNat ≠ 112) : (112 : UInt8) ∉ s.data.toList.take (i + 1) := by
  have hil : i < s.data.toList.length := by rw [← Lib.size_eq]; exact h
  rw [List.take_succ_eq_append_getElem hil, List.mem_append]
  rintro (h | h)
  · exact hn h
  · rw [List.mem_singleton] at h
    apply hb
    have : s[i] = s.data.toList[i] := rfl
    rw [this, ← h]
    rfl
theorem at_p {s : ByteArray} {i : Nat} (h : i < s.size) (hn : (112 : UInt8) ∉ s.data.toList.take i) (hb : s[i].toNat = 112) : AtP s.data.toList i := by
  have hsl := Lib.size_eq s
  refine ⟨by omega, hn, fun h => ?_⟩
  rw [List.getElem?_eq_getElem h]
  have e : s[i] = s.data.toList[i] := rfl
  have e2 : s.data.toList[i] = 112 := by rw [← e]; exact UInt8.toNat_inj.1 hb
  rw [e2]
/-- The facts that the walk behind the loop needs: m's text and value, the exponent's text, sign and value. -/
structure Facts (s : ByteArray) (i : Nat) (mv : Int) (ok : Bool) (x : Nat) : Prop where
  num : ∀ w, Calls Tryz.prog 77 #[.string (s.extract 0 i)] w fun e w' => e = .returned (.tuple #[.int .i64 mv, .bool ok]) ∧ Below w.heap.size w w'
  flt : floatOfInt .f64 mv = x
  val : ok = false ∨ i = s.size → ValW s.data.toList x
structure FactsE (s : ByteArray) (j : Nat) (mv sg : Int) (ev : Int) (isv : Bool) : Prop where
  num : ∀ w, Calls Tryz.prog 77 #[.string (s.extract j s.size)] w fun e w' => e = .returned (.tuple #[.int .i64 ev, .bool isv]) ∧ Below w.heap.size w w'
  none : isv = false ∨ 1200 < ev → ValW s.data.toList 0
  some : ev ≤ 1200 → ∀ w, Calls Tryz.prog 78 #[.int .i64 mv, .int .i64 (sg * ev)] w fun en w' => ∃ r, en = .returned (.float .f64 r) ∧ ValW s.data.toList r ∧ w' = w
  lo : 0 ≤ ev
  hi : ev < 10000000000000000
theorem facts_of {s : ByteArray} (h5 : s.size ≤ 100000) {i : Nat} (hA : AtP s.data.toList i) (h1 : s.data.toList ≠ [110, 97, 110]) (h2 : ∀ t, s.data.toList ≠ 45 :: t) (h3 : s.data.toList ≠ [105, 110, 102]) :
    ∃ x, Facts s i (numF (s.data.toList.take i)).1 (numF (s.data.toList.take i)).2 x := by
  have hsl := Lib.size_eq s
  have hN := number_any (s.extract 0 i) (by rw [ByteArray.size_extract]; omega)
  rw [ext_take] at hN
  obtain ⟨x, hx, hx1, _⟩ := ofInt_num (numF (s.data.toList.take i)).1
  exact ⟨x, hN, hx, fun hc => val_first hA h1 h2 h3 (hc.imp id (fun h => by omega)) x hx1 hx⟩
theorem factsE_neg {s : ByteArray} (h5 : s.size ≤ 100000) {i : Nat} (hA : AtP s.data.toList i) (h1 : s.data.toList ≠ [110, 97, 110]) (h2 : ∀ t, s.data.toList ≠ 45 :: t) (h3 : s.data.toList ≠ [105, 110, 102]) (hi : i + 1 < s.size) (hb : s[i + 1].toNat = 45) :
    FactsE s (i + 2) (numF (s.data.toList.take i)).1 (-1) (numF (s.data.toList.drop (i + 2))).1 (numF (s.data.toList.drop (i + 2))).2 := by
  have hsl := Lib.size_eq s
  have hN := number_any (s.extract (i + 2) s.size) (by rw [ByteArray.size_extract]; omega)
  rw [ext_from] at hN
  have hD : s.data.toList.drop (i + 1) = s[i + 1] :: s.data.toList.drop (i + 2) := by
    rw [List.drop_eq_getElem_cons (by omega)]
    rfl
  obtain ⟨k1, k2⟩ := val_neg hA (by omega) h1 h2 h3 hD (UInt8.toNat_inj.1 hb)
  have hbd := numF_bound (s.data.toList.drop (i + 2))
  refine ⟨hN, fun hc => valW_no (by omega) (k1 hc), fun he w => ?_, hbd.1, hbd.2⟩
  rw [show (-1 : Int) * (numF (s.data.toList.drop (i + 2))).1 = -(numF (s.data.toList.drop (i + 2))).1 by omega]
  refine (scaled_any _ _ ⟨by omega, by omega⟩ w).mono ?_
  rintro e w' ⟨r, he, hr, hS, hw⟩
  exact ⟨r, he, valW_yes hr (k2 r hS), hw⟩
theorem factsE_pos {s : ByteArray} (h5 : s.size ≤ 100000) {i : Nat} (hA : AtP s.data.toList i) (h1 : s.data.toList ≠ [110, 97, 110]) (h2 : ∀ t, s.data.toList ≠ 45 :: t) (h3 : s.data.toList ≠ [105, 110, 102]) (hi : i < s.size) (hb : ∀ h : i + 1 < s.size, s[i + 1].toNat ≠ 45) :
    FactsE s (i + 1) (numF (s.data.toList.take i)).1 1 (numF (s.data.toList.drop (i + 1))).1 (numF (s.data.toList.drop (i + 1))).2 := by
  have hsl := Lib.size_eq s
  have hN := number_any (s.extract (i + 1) s.size) (by rw [ByteArray.size_extract]; omega)
  rw [ext_from] at hN
  have hD : ∀ r, s.data.toList.drop (i + 1) ≠ 45 :: r := fun r h => by
    rcases Nat.lt_or_ge (i + 1) s.size with c | c
    · rw [List.drop_eq_getElem_cons (by omega)] at h
      apply hb c
      have e : s[i + 1] = s.data.toList[i + 1] := rfl
      rw [e, (List.cons.inj h).1]
      rfl
    · rw [List.drop_eq_nil_of_le (by omega)] at h
      cases h
  obtain ⟨k1, k2⟩ := val_pos hA (by omega) h1 h2 h3 hD
  have hbd := numF_bound (s.data.toList.drop (i + 1))
  refine ⟨hN, fun hc => valW_no (by omega) (k1 hc), fun he w => ?_, hbd.1, hbd.2⟩
  rw [Int.one_mul]
  refine (scaled_any _ _ ⟨by omega, by omega⟩ w).mono ?_
  rintro e w' ⟨r, he, hr, hS, hw⟩
  exact ⟨r, he, valW_yes hr (k2 r hS), hw⟩
end Go.Proofs.YtghnlhadohnenaaGreatDoor
