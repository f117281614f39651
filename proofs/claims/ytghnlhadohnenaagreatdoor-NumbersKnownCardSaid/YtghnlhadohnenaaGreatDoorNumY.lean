/- numbers.Parse: plain lemmas, the callees at one base world. -/
import Derived.Test.YtghnlhadohnenaaGreatDoorNumX
import Derived.Test.YtghnlhadohnenaaGreatDoorNumV
import Derived.Lib.IndexBytes
import Derived.Lib.IndexLaws
namespace Go.Proofs.YtghnlhadohnenaaGreatDoor
set_option exponentiation.threshold 3000
open Go.Shelf Go.RowKit Go.Proofs.YtghnlhadohnenaaGreatDoorW.PrintWords Go.Proofs.YtghnlhadohnenaaGreatDoorW.PrintLast Go.Proofs.YtghnlhadohnenaaGreatDoorW.PrintMore
open Go.Lib (decDigits nDigits)
set_option linter.unusedVariables false
set_option linter.unusedSimpArgs false
theorem cut_no {l : List UInt8} (h : (112 : UInt8) ∉ l) : Lib.cut l [112] = (l, [], false) := by
  unfold Lib.cut
  rw [if_neg]
  intro h0
  rw [Lib.index_one] at h0
  obtain ⟨o, ho⟩ : ∃ o : Nat, Lib.indexByte l 112 = o := ⟨(Lib.indexByte l 112).toNat, by omega⟩
  exact h (List.mem_of_getElem? (Lib.indexByte_some ho).1)
theorem cut_at {a b : List UInt8} (h : (112 : UInt8) ∉ a) : Lib.cut (a ++ 112 :: b) [112] = (a, b, true) := by
  have key : Lib.index (a ++ 112 :: b) [112] = (a.length : Int) := by
    rw [Lib.index_one]
    have hge := Lib.indexByte_ge (a ++ 112 :: b) 112
    by_cases hm : Lib.indexByte (a ++ 112 :: b) 112 = -1
    · exact absurd (by simp) (Lib.indexByte_none hm a.length)
    · obtain ⟨o, ho⟩ : ∃ o : Nat, Lib.indexByte (a ++ 112 :: b) 112 = o := ⟨(Lib.indexByte (a ++ 112 :: b) 112).toNat, by omega⟩
      obtain ⟨h1, h2⟩ := Lib.indexByte_some ho
      rw [ho]
      rcases Nat.lt_trichotomy o a.length with c | c | c
      · rw [List.getElem?_append_left c] at h1
        exact absurd (List.mem_of_getElem? h1) h
      · rw [c]
      · exact absurd (by simp) (h2 a.length c)
  unfold Lib.cut
  rw [key, if_pos (by omega)]
  simp
theorem parseM_fold : ∀ (l : List UInt8) (acc : Nat), l.all isD = true → foldD acc l ≤ 9007199254740991 → Lib.parseUintM 9007199254740991 acc l = .ok (foldD acc l)
  | [], _, _, _ => rfl
  | c :: r, acc, h, hb => by
    simp only [List.all_cons, Bool.and_eq_true] at h
    have h1 : 48 ≤ c.toNat ∧ c.toNat ≤ 57 := by simpa [isD] using h.1
    have h2 := foldD_ge r (acc * 10 + (c.toNat - 48))
    have hb' : foldD (acc * 10 + (c.toNat - 48)) r ≤ 9007199254740991 := hb
    unfold Lib.parseUintM
    rw [if_pos h1, if_neg (by omega), if_neg (by omega), parseM_fold r _ h.2 hb']
    rfl
theorem uint53_dec {u : Nat} (h : u < 9007199254740992) : Lib.parseUintB 53 (decDigits u) = .ok u := by
  obtain ⟨h1, h2, c, r, h3, h4⟩ := dec_facts u
  unfold Lib.parseUintB
  rw [if_neg (by rw [h3]; simp), show (2 ^ 53 - 1 : Nat) = 9007199254740991 by decide, parseM_fold _ _ h1 (by rw [h2]; omega), h2]
theorem uintM_le : ∀ (l : List UInt8) (acc u : Nat), acc ≤ 9007199254740991 → Lib.parseUintM 9007199254740991 acc l = .ok u → u ≤ 9007199254740991
  | [], acc, u, h, he => by
    unfold Lib.parseUintM at he
    cases he
    exact h
  | c :: r, acc, u, h, he => by
    unfold Lib.parseUintM at he
    split at he
    · split at he
      · cases he
      · split at he
        · cases he
        · exact uintM_le r _ u (by omega) he
    · cases he
theorem uint53_lt {l : List UInt8} {u : Nat} (h : Lib.parseUintB 53 l = .ok u) : u < 9007199254740992 := by
  unfold Lib.parseUintB at h
  split at h
  · cases h
  · rw [show (2 ^ 53 - 1 : Nat) = 9007199254740991 by decide] at h
    have := uintM_le l 0 u (by omega) h
    omega
/-- What the digits and the part behind the p tell. -/
def NumR (t : List UInt8) (o : Option (Nat × Int)) : Prop := ∀ y, y < topR → textR y = t → ∃ n k, o = some (n, k) ∧ n < 9007199254740992 ∧ (∃ j : Nat, (j : Int) = k + 1074 ∧ mg y = n * 2 ^ j)
theorem num_text {t : List UInt8} {y : Nat} (hy : y < topR) (ht : textR y = t) :
    ∃ a b F n k, Lib.cut t [112] = (a, b, F) ∧ Lib.parseUintB 53 a = .ok n ∧ n < 9007199254740992 ∧ ((F = false ∧ k = 0) ∨ (F = true ∧ Lib.atoiAll b = .ok k)) ∧ -1074 ≤ k ∧ k ≤ 1100 ∧ (∃ j : Nat, (j : Int) = k + 1074 ∧ mg y = n * 2 ^ j) := by
  rcases shapes (Nat.le_of_lt hy) with ⟨e, _⟩ | ⟨n, hn, e, ey⟩ | ⟨m, e, hm, _, he1, he2, e2, hyt, j, k1, k2⟩
  · omega
  · rw [ht] at e
    refine ⟨_, _, _, n, 0, cut_no (by rw [e]; exact dec_no 112 (by decide)), by rw [e]; exact uint53_dec hn, hn, .inl ⟨rfl, rfl⟩, by omega, by omega, 1074, by omega, ?_⟩
    rw [ey]
    exact (rn_facts (n := n) (by omega)).2.1
  · rw [ht] at e2
    exact ⟨_, _, _, m, e, by rw [e2]; exact cut_at (dec_no 112 (by decide)), uint53_dec hm, hm, .inr ⟨rfl, atoi_itoa (by omega) (by omega)⟩, he1, he2, j, k1, k2⟩
theorem scale_num {t : List UInt8} {n : Nat} {k : Int} {x : Nat} (hS : Scale n k x) (h : ∀ y, y < topR → textR y = t → (∃ j : Nat, (j : Int) = k + 1074 ∧ mg y = n * 2 ^ j) ∧ n < 9007199254740992) : ∀ y, y < topR → textR y = t → x = y := by
  intro y hy ht
  obtain ⟨⟨j, h1, h2⟩, h3⟩ := h y hy ht
  exact hS n j y rfl h3 hy h1 h2
theorem parse_fin {s t : List UInt8} {M : Bool} {x : Nat} (hcut : (M = true ∧ s = 45 :: t) ∨ (M = false ∧ t = s ∧ ∀ r, s ≠ 45 :: r)) (hx : (t = [110, 97, 110] ∧ nanB x = true) ∨ (t ≠ [110, 97, 110] ∧ ∀ y, y ≤ topR → textR y = t → x = y)) :
    ∀ y, y < 18446744073709551616 → textW y = s → textW (if M then wd (!sb x) (rk x) else x) = s := by
  intro y hy he
  cases hn : nanB y with
  | true =>
    have e : textW y = [110, 97, 110] := by unfold textW; rw [hn]; rfl
    rw [he] at e
    rcases hcut with ⟨hM, h1⟩ | ⟨hM, h1, _⟩
    · rw [e] at h1; cases h1
    · rw [hM]
      rcases hx with ⟨_, h3⟩ | ⟨h2, _⟩
      · simp only [Bool.false_eq_true, if_false]
        rw [e]
        unfold textW
        rw [h3]
        rfl
      · exact absurd (h1.trans e) h2
  | false =>
    have hk := rk_top hn
    obtain ⟨c, l, e1, hc⟩ := headR hk
    have hc45 : c ≠ 45 := fun h => by
      rw [h] at hc
      rcases hc with hc | hc
      · cases hc
      · exact absurd hc (by decide)
    have hnan : textR (rk y) ≠ [110, 97, 110] := fun h => by
      rw [e1] at h
      cases h
      rcases hc with hc | hc
      · cases hc
      · exact absurd hc (by decide)
    cases hs : sb y with
    | true =>
      have e : textW y = 45 :: textR (rk y) := by unfold textW; rw [hn, hs]; rfl
      rw [he] at e
      rcases hcut with ⟨hM, h1⟩ | ⟨hM, _, h1⟩
      · rw [h1] at e
        have et := (List.cons.inj e).2
        rw [hM]
        simp only [if_true]
        rcases hx with ⟨h2, _⟩ | ⟨_, h2⟩
        · exact absurd (et.symm.trans h2) hnan
        · have := h2 (rk y) hk et.symm
          rw [this, sb_rk, rk_rk, ← he]
          have hw := wd_eq hy
          rw [hs] at hw
          exact congrArg textW hw.symm
      · exact absurd e (h1 _)
    | false =>
      have e : textW y = textR (rk y) := by unfold textW; rw [hn, hs]; rfl
      have hw := wd_eq hy
      rw [hs] at hw
      have hyr : y = rk y := hw
      rcases hcut with ⟨hM, h1⟩ | ⟨hM, h1, _⟩
      · rw [he, e1, h1] at e
        exact absurd (List.cons.inj e).1.symm hc45
      · rw [hM]
        simp only [Bool.false_eq_true, if_false]
        rcases hx with ⟨h2, _⟩ | ⟨_, h2⟩
        · rw [he, ← h1, h2] at e
          exact absurd e.symm hnan
        · have := h2 (rk y) hk (by rw [← e, he, h1])
          rw [this, ← hyr, he]
theorem parse_none {s t : List UInt8} {M : Bool} (hcut : (M = true ∧ s = 45 :: t) ∨ (M = false ∧ t = s ∧ ∀ r, s ≠ 45 :: r)) (h1 : t ≠ [110, 97, 110]) (h2 : ∀ y, y ≤ topR → textR y ≠ t) :
    ∀ y, y < 18446744073709551616 → textW y ≠ s := by
  intro y hy he
  have a := parse_fin (x := 0) hcut (.inr ⟨h1, fun y hy h => absurd h (h2 y hy)⟩) y hy he
  have b := parse_fin (x := 1) hcut (.inr ⟨h1, fun y hy h => absurd h (h2 y hy)⟩) y hy he
  rw [← b] at a
  revert a
  cases M <;> decide +kernel
theorem le_top {y : Nat} {t : List UInt8} (hy : y ≤ topR) (h : textR y = t) (hi : t ≠ [105, 110, 102]) : y < topR := by
  rcases Nat.lt_or_eq_of_le hy with h1 | h1
  · exact h1
  · exact absurd (by rw [← h, h1]; rfl) hi
theorem lift {w : World} {f : Nat} {args : Array Value} {Q : Ending → Prop} (h : ∀ W, NTabs W → Calls Tryz.prog f args W (fun e w' => Q e ∧ Below W.heap.size W w')) (hT : NTabs w) : ∀ W, Below w.heap.size w W → Calls Tryz.prog f args W (fun e w' => Q e ∧ Below w.heap.size w w') :=
  fun W hb => (h W (hT.below hb)).mono fun e w' ⟨h1, h2⟩ => ⟨h1, hb.trans (h2.mono hb.size)⟩
theorem cutP (T : ByteArray) (hT : T.size ≤ 1000000) (a b : List UInt8) (F : Bool) (h : Lib.cut T.data.toList [112] = (a, b, F)) (W : World) (hN : NTabs W) :
    Calls Tryz.prog 40 #[.string T, .string ⟨#[112]⟩] W fun e w' => e = .returned (.tuple #[.string ⟨a.toArray⟩, .string ⟨b.toArray⟩, .bool F]) ∧ Below W.heap.size W w' := by
  obtain ⟨m, hm⟩ := hN.vt.ml
  have := Tryz.strings_Cut T ⟨#[112]⟩ m W (by omega) hm
  rw [show (ByteArray.mk #[112]).data.toList = [112] from rfl, h] at this
  refine this.mono ?_
  rintro e w' ⟨h1, n, rfl⟩
  exact ⟨h1, pw_below_drewN (Below.refl _ _) n⟩
theorem cut_len {l : List UInt8} {a b : List UInt8} {F : Bool} (h : Lib.cut l [112] = (a, b, F)) : a.length ≤ l.length ∧ b.length ≤ l.length := by
  unfold Lib.cut at h
  split at h
  · cases h
    exact ⟨List.length_take_le' .., by rw [List.length_drop]; omega⟩
  · cases h
    exact ⟨Nat.le_refl _, Nat.zero_le _⟩
theorem minusP (s : ByteArray) : ∃ (T : ByteArray) (M : Bool), ((M = true ∧ s.data.toList = 45 :: T.data.toList) ∨ (M = false ∧ T = s ∧ ∀ r, s.data.toList ≠ 45 :: r)) ∧ T.size ≤ s.size ∧
    ∀ w, Calls Tryz.prog 37 #[.string s, .string ⟨#[45]⟩] w fun e w' => e = .returned (.tuple #[.string T, .bool M]) ∧ w' = w := by
  have hc := fun w => Tryz.strings_CutPrefix s ⟨#[45]⟩ w
  rw [show (ByteArray.mk #[45]).data.toList = [45] from rfl] at hc
  have hsl := Lib.size_eq s
  cases hl : s.data.toList with
  | nil =>
    rw [hl] at hc
    refine ⟨s, false, .inr ⟨rfl, rfl, fun r => by simp⟩, Nat.le_refl _, fun w => (hc w).mono ?_⟩
    rintro e w' ⟨rfl, h2⟩
    refine ⟨?_, h2⟩
    have : (⟨(Lib.trimPrefix [] [45]).toArray⟩ : ByteArray) = s := by
      rw [show Lib.trimPrefix [] [45] = [] from rfl, ← hl]
    rw [this]
    rfl
  | cons c r =>
    rw [hl] at hc
    by_cases h : c = 45
    · subst h
      refine ⟨⟨r.toArray⟩, true, .inl ⟨rfl, rfl⟩, ?_, fun w => (hc w).mono ?_⟩
      · rw [hsl, hl]
        show r.toArray.size ≤ _
        simp
      · rintro e w' ⟨rfl, h2⟩
        exact ⟨rfl, h2⟩
    · have hp : Lib.hasPrefix (c :: r) [45] = false := by
        unfold Lib.hasPrefix
        simp [List.isPrefixOf]
        exact fun hh => h hh.symm
      refine ⟨s, false, .inr ⟨rfl, rfl, fun r' => by simp [h]⟩, Nat.le_refl _, fun w => (hc w).mono ?_⟩
      rintro e w' ⟨rfl, h2⟩
      refine ⟨?_, h2⟩
      rw [hp]
      have : (⟨(Lib.trimPrefix (c :: r) [45]).toArray⟩ : ByteArray) = s := by
        unfold Lib.trimPrefix
        rw [hp]
        simp only [Bool.false_eq_true, if_false]
        rw [← hl]
      rw [this]
end Go.Proofs.YtghnlhadohnenaaGreatDoor
