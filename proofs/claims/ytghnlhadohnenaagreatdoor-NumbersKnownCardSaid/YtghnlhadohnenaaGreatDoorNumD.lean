/- The reference's order of doubles, and what is worked out of two: the walks. -/
import Derived.Test.YtghnlhadohnenaaGreatDoorNumC
namespace Go.Proofs.YtghnlhadohnenaaGreatDoor
set_option exponentiation.threshold 3000
open Go.Shelf Go.RowKit Go.Lib Go.Proofs.YtghnlhadohnenaaGreatDoorW.PrintWords Go.Proofs.YtghnlhadohnenaaGreatDoorW.PrintMore
set_option linter.unusedVariables false
set_option linter.unusedSimpArgs false
theorem one_quo (s : Bool) : floatBits .quo .f64 4607182418800017408 (wd s 0) = some (wd s topR) := by cases s <;> decide +kernel
theorem lt_inf0 (s : Bool) : (FloatKind.f64.format.order (wd s topR) 0 == some .lt) = s := by cases s <;> decide +kernel
theorem minus_any (x : Nat) (hx : x < 18446744073709551616) (w : World) : Calls Tryz.prog 45 #[.float .f64 x] w fun e w' => e = .returned (.bool (!nanB x && sb x)) ∧ w' = w := by
  cases hn : nanB x with
  | true =>
    have h1 := ltF_nan hx zero_lt64 (.inl hn)
    have h2 := eqF_nan hx zero_lt64 (.inl hn)
    unfold ltF at h1
    unfold eqF at h2
    go_enter Tryz.func45, Tryz.ntmps45
    go_wp2
    go_ret
    exact ⟨rfl, rfl⟩
  | false =>
    have h1 := ltF_iff hx zero_lt64 hn nan_zero
    have h2 := eqF_iff hx zero_lt64 hn nan_zero
    unfold ltF at h1
    unfold eqF at h2
    rw [sv_zero] at h1 h2
    have hsv := sv_cases x
    by_cases c : sv x < 0
    · rw [decide_eq_true c] at h1
      have hs : sb x = true := by rcases hsv with ⟨a, _⟩ | ⟨_, b⟩; exact a; omega
      clear h2 c hsv
      go_enter Tryz.func45, Tryz.ntmps45
      go_wp2
      go_ret
      exact ⟨by rw [hs]; rfl, rfl⟩
    · rw [decide_eq_false c] at h1
      by_cases z : sv x = 0
      · rw [decide_eq_true z] at h2
        have hr : rk x = 0 := by rcases hsv with ⟨_, b⟩ | ⟨_, b⟩ <;> omega
        have hw := wd_eq hx
        rw [hr] at hw
        generalize sb x = s at *
        clear hsv hr c z
        subst hw
        have hq : ∀ t w, (binOp .quo t (.float .f64 4607182418800017408) (.float .f64 (wd s 0))).run Tryz.prog w = .ok (.float .f64 (wd s topR)) w := fun t w => run_float_arith w .quo t .f64 _ _ _ (one_quo s)
        have hl := lt_inf0 s
        go_enter Tryz.func45, Tryz.ntmps45
        go_wp2_with (simp only [hq])
        go_ret
        exact ⟨rfl, rfl⟩
      · rw [decide_eq_false z] at h2
        have hs : sb x = false := by rcases hsv with ⟨_, b⟩ | ⟨a, _⟩; omega; exact a
        clear c z hsv
        go_enter Tryz.func45, Tryz.ntmps45
        go_wp2
        go_ret
        exact ⟨by rw [hs]; rfl, rfl⟩
theorem refCompare_any (a b : Nat) (ha : a < 18446744073709551616) (hb : b < 18446744073709551616) (w : World) :
    Calls Tryz.prog 23 #[.float .f64 a, .float .f64 b] w fun e w' => e = .returned (.int .i64 (cmpK a b)) ∧ w' = w := by
  have HN := Aside0.mk ref_NaN
  have HM := Aside0.mk minus_any
  cases ca : nanB a with
  | true =>
    cases cb : nanB b with
    | true =>
      have HE : Aside0 (cmpK a b = 0) := Aside0.mk (by unfold cmpK; rw [key_nan ca, key_nan cb]; rfl)
      go_enter Tryz.func23, Tryz.ntmps23
      go_wp2_with (go_at_call 44; refine (HN.out _ (by assumption) _).mono ?_; rintro e w' ⟨rfl, rfl⟩)
      go_ret
      exact ⟨by rw [HE.out]; rfl, rfl⟩
    | false =>
      have HE : Aside0 (cmpK a b = 1) := Aside0.mk (by have := key_lt cb; unfold cmpK cmpI; rw [key_nan ca, if_neg (by omega), if_pos this])
      go_enter Tryz.func23, Tryz.ntmps23
      go_wp2_with (go_at_call 44; refine (HN.out _ (by assumption) _).mono ?_; rintro e w' ⟨rfl, rfl⟩)
      go_ret
      exact ⟨by rw [HE.out]; rfl, rfl⟩
  | false =>
    cases cb : nanB b with
    | true =>
      have HE : Aside0 (cmpK a b = -1) := Aside0.mk (by have := key_lt ca; unfold cmpK cmpI; rw [key_nan cb, if_pos this])
      go_enter Tryz.func23, Tryz.ntmps23
      go_wp2_with (go_at_call 44; refine (HN.out _ (by assumption) _).mono ?_; rintro e w' ⟨rfl, rfl⟩)
      go_ret
      exact ⟨by rw [HE.out]; rfl, rfl⟩
    | false =>
      have hl := ltF_iff ha hb ca cb
      have hg := gtF_iff ha hb ca cb
      unfold ltF at hl
      unfold gtF at hg
      have hse := sv_cmp ca cb
      rcases cmpI_cases (sv a) (sv b) with ⟨c, e⟩ | ⟨c, e⟩ | ⟨c, e⟩
      · rw [decide_eq_true c] at hl
        have HE := Aside0.mk ((hse (by omega)).symm.trans e)
        clear hse c hg e
        go_enter Tryz.func23, Tryz.ntmps23
        go_wp2_with (go_at_call 44; refine (HN.out _ (by assumption) _).mono ?_; rintro e w' ⟨rfl, rfl⟩)
        go_ret
        exact ⟨by rw [HE.out]; rfl, rfl⟩
      · rw [decide_eq_false (by omega)] at hl hg
        have hka := key_num ca
        have hkb := key_num cb
        have h1 := sv_cases a
        have h2 := sv_cases b
        cases sa : sb a <;> cases sbb : sb b
        · have HE : Aside0 (cmpK a b = 0) := Aside0.mk (by unfold cmpK cmpI; rw [hka, hkb, sa, sbb]; rw [sa] at h1; rw [sbb] at h2; simp at h1 h2 ⊢; omega)
          clear hse c e hka hkb h1 h2
          go_enter Tryz.func23, Tryz.ntmps23
          go_wp2_with (first | (go_at_call 44; refine (HN.out _ (by assumption) _).mono ?_; rintro e w' ⟨rfl, rfl⟩) | (go_at_call 45; refine (HM.out _ (by assumption) _).mono ?_; rintro e w' ⟨rfl, rfl⟩))
          go_ret
          exact ⟨by rw [HE.out]; rfl, rfl⟩
        · have HE : Aside0 (cmpK a b = 1) := Aside0.mk (by unfold cmpK cmpI; rw [hka, hkb, sa, sbb]; rw [sa] at h1; rw [sbb] at h2; simp at h1 h2 ⊢; omega)
          clear hse c e hka hkb h1 h2
          go_enter Tryz.func23, Tryz.ntmps23
          go_wp2_with (first | (go_at_call 44; refine (HN.out _ (by assumption) _).mono ?_; rintro e w' ⟨rfl, rfl⟩) | (go_at_call 45; refine (HM.out _ (by assumption) _).mono ?_; rintro e w' ⟨rfl, rfl⟩))
          go_ret
          exact ⟨by rw [HE.out]; rfl, rfl⟩
        · have HE : Aside0 (cmpK a b = -1) := Aside0.mk (by unfold cmpK cmpI; rw [hka, hkb, sa, sbb]; rw [sa] at h1; rw [sbb] at h2; simp at h1 h2 ⊢; omega)
          clear hse c e hka hkb h1 h2
          go_enter Tryz.func23, Tryz.ntmps23
          go_wp2_with (first | (go_at_call 44; refine (HN.out _ (by assumption) _).mono ?_; rintro e w' ⟨rfl, rfl⟩) | (go_at_call 45; refine (HM.out _ (by assumption) _).mono ?_; rintro e w' ⟨rfl, rfl⟩))
          go_ret
          exact ⟨by rw [HE.out]; rfl, rfl⟩
        · have HE : Aside0 (cmpK a b = 0) := Aside0.mk (by unfold cmpK cmpI; rw [hka, hkb, sa, sbb]; rw [sa] at h1; rw [sbb] at h2; simp at h1 h2 ⊢; omega)
          clear hse c e hka hkb h1 h2
          go_enter Tryz.func23, Tryz.ntmps23
          go_wp2_with (first | (go_at_call 44; refine (HN.out _ (by assumption) _).mono ?_; rintro e w' ⟨rfl, rfl⟩) | (go_at_call 45; refine (HM.out _ (by assumption) _).mono ?_; rintro e w' ⟨rfl, rfl⟩))
          go_ret
          exact ⟨by rw [HE.out]; rfl, rfl⟩
      · rw [decide_eq_false (by omega)] at hl
        rw [decide_eq_true c] at hg
        have HE := Aside0.mk ((hse (by omega)).symm.trans e)
        clear hse c e
        go_enter Tryz.func23, Tryz.ntmps23
        go_wp2_with (go_at_call 44; refine (HN.out _ (by assumption) _).mono ?_; rintro e w' ⟨rfl, rfl⟩)
        go_ret
        exact ⟨by rw [HE.out]; rfl, rfl⟩
theorem refSame_any (a b : Nat) (ha : a < 18446744073709551616) (hb : b < 18446744073709551616) (w : World) :
    Calls Tryz.prog 16 #[.float .f64 a, .float .f64 b] w fun e w' => e = .returned (.bool (decide (cmpK a b = 0))) ∧ w' = w := by
  have HC := Aside0.mk (refCompare_any a b ha hb)
  go_enter Tryz.func16, Tryz.ntmps16
  go_wp2_with (go_at_call 23; refine (HC.out _).mono ?_; rintro e w' ⟨rfl, rfl⟩)
  go_ret
  exact ⟨rfl, rfl⟩
/-- A word that one draw gives where an operation is invalid. -/
theorem nan_draw (op : BinOp) (h4 : op = .add ∨ op = .sub ∨ op = .mul ∨ op = .quo) (x y : Nat) (h : floatBits op .f64 x y = none) (w : World) :
    ∃ r, r < 18446744073709551616 ∧ nanB r = true ∧ ∀ t, (binOp op t (.float .f64 x) (.float .f64 y)).run Tryz.prog w = .ok (.float .f64 r) w.drew := by
  obtain ⟨q, hq⟩ : ∃ q, q = w.tape w.drawn (.nanBits .f64 x y) := ⟨_, rfl⟩
  refine ⟨(q % 2) * 2 ^ 63 + 0x7ff0000000000000 + 1 + (q / 2) % (2 ^ 52 - 1), by omega, ?_, fun t => ?_⟩
  · unfold nanB rk topR
    rcases Nat.mod_two_eq_zero_or_one q with e | e <;> rw [e] <;> exact decide_eq_true (by omega)
  · subst hq
    unfold floatBits at h
    rcases h4 with rfl | rfl | rfl | rfl <;> simp only at h <;> simp [binOp, Op.floatArith, h, run_choose_drew, Question.forced, Question.cut]
/-- What numbers.Do works out: which sign, and of what. -/
def opD (op : Int) : Option BinOp := if op = 43 then some .add else if op = 45 then some .sub else if op = 42 then some .mul else if op = 47 then some .quo else none
/-- A result of an operation. -/
def isRes (o : Option BinOp) (a b r : Nat) : Prop := match o with
  | none => r = 0
  | some op => floatBits op .f64 a b = some r ∨ (floatBits op .f64 a b = none ∧ nanB r = true)
theorem bits_lt {op : BinOp} {x y r : Nat} (h : floatBits op .f64 x y = some r) : r < 18446744073709551616 := by
  have := floatBits_wf h
  simpa [Lit.wf] using this
theorem Do_any (op : Int) (a b : Nat) (w : World) : Calls Tryz.prog 24 #[.int .u8 op, .float .f64 a, .float .f64 b] w fun e w' => ∃ r, e = .returned (.tuple #[.float .f64 r, .bool (opD op).isSome]) ∧ r < 18446744073709551616 ∧ isRes (opD op) a b r ∧ Below w.heap.size w w' := by
  by_cases c43 : op = 43
  · subst c43
    have ho : opD 43 = some .add := by decide
    cases h : floatBits .add .f64 a b with
    | some r =>
      have hop : ∀ t w, (binOp .add t (.float .f64 a) (.float .f64 b)).run Tryz.prog w = .ok (.float .f64 r) w := fun t w => run_float_arith w .add t .f64 a b r h
      go_enter Tryz.func24, Tryz.ntmps24
      go_wp2_with (simp only [hop])
      go_ret2
      exact ⟨r, rfl, bits_lt h, by rw [ho]; exact .inl h, Below.refl _ _⟩
    | none =>
      obtain ⟨r, h1, h2, hop⟩ := nan_draw .add (by simp) a b h w
      go_enter Tryz.func24, Tryz.ntmps24
      go_wp2_with (simp only [hop])
      go_ret2
      exact ⟨r, rfl, h1, by rw [ho]; exact .inr ⟨h, h2⟩, (Below.refl _ _).drew⟩
  · skip
    by_cases c45 : op = 45
    · subst c45
      have ho : opD 45 = some .sub := by decide
      cases h : floatBits .sub .f64 a b with
      | some r =>
        have hop : ∀ t w, (binOp .sub t (.float .f64 a) (.float .f64 b)).run Tryz.prog w = .ok (.float .f64 r) w := fun t w => run_float_arith w .sub t .f64 a b r h
        go_enter Tryz.func24, Tryz.ntmps24
        go_wp2_with (simp only [hop])
        go_ret2
        exact ⟨r, rfl, bits_lt h, by rw [ho]; exact .inl h, Below.refl _ _⟩
      | none =>
        obtain ⟨r, h1, h2, hop⟩ := nan_draw .sub (by simp) a b h w
        go_enter Tryz.func24, Tryz.ntmps24
        go_wp2_with (simp only [hop])
        go_ret2
        exact ⟨r, rfl, h1, by rw [ho]; exact .inr ⟨h, h2⟩, (Below.refl _ _).drew⟩
    · skip
      by_cases c42 : op = 42
      · subst c42
        have ho : opD 42 = some .mul := by decide
        cases h : floatBits .mul .f64 a b with
        | some r =>
          have hop : ∀ t w, (binOp .mul t (.float .f64 a) (.float .f64 b)).run Tryz.prog w = .ok (.float .f64 r) w := fun t w => run_float_arith w .mul t .f64 a b r h
          go_enter Tryz.func24, Tryz.ntmps24
          go_wp2_with (simp only [hop])
          go_ret2
          exact ⟨r, rfl, bits_lt h, by rw [ho]; exact .inl h, Below.refl _ _⟩
        | none =>
          obtain ⟨r, h1, h2, hop⟩ := nan_draw .mul (by simp) a b h w
          go_enter Tryz.func24, Tryz.ntmps24
          go_wp2_with (simp only [hop])
          go_ret2
          exact ⟨r, rfl, h1, by rw [ho]; exact .inr ⟨h, h2⟩, (Below.refl _ _).drew⟩
      · skip
        by_cases c47 : op = 47
        · subst c47
          have ho : opD 47 = some .quo := by decide
          cases h : floatBits .quo .f64 a b with
          | some r =>
            have hop : ∀ t w, (binOp .quo t (.float .f64 a) (.float .f64 b)).run Tryz.prog w = .ok (.float .f64 r) w := fun t w => run_float_arith w .quo t .f64 a b r h
            go_enter Tryz.func24, Tryz.ntmps24
            go_wp2_with (simp only [hop])
            go_ret2
            exact ⟨r, rfl, bits_lt h, by rw [ho]; exact .inl h, Below.refl _ _⟩
          | none =>
            obtain ⟨r, h1, h2, hop⟩ := nan_draw .quo (by simp) a b h w
            go_enter Tryz.func24, Tryz.ntmps24
            go_wp2_with (simp only [hop])
            go_ret2
            exact ⟨r, rfl, h1, by rw [ho]; exact .inr ⟨h, h2⟩, (Below.refl _ _).drew⟩
        · skip
          have ho : opD op = none := by unfold opD; rw [if_neg c43, if_neg c45, if_neg c42, if_neg c47]
          go_enter Tryz.func24, Tryz.ntmps24
          go_wp2
          go_ret2
          exact ⟨0, by rw [ho]; rfl, by omega, by rw [ho]; rfl, Below.refl _ _⟩
theorem refDo_any (op : Int) (a b : Nat) (w : World) : Calls Tryz.prog 25 #[.int .u8 op, .float .f64 a, .float .f64 b] w fun e w' => ∃ r, e = .returned (.tuple #[.float .f64 r, .bool (opD op).isSome]) ∧ r < 18446744073709551616 ∧ isRes (opD op) a b r ∧ Below w.heap.size w w' := by
  by_cases c43 : op = 43
  · subst c43
    have ho : opD 43 = some .add := by decide
    cases h : floatBits .add .f64 a b with
    | some r =>
      have hop : ∀ t w, (binOp .add t (.float .f64 a) (.float .f64 b)).run Tryz.prog w = .ok (.float .f64 r) w := fun t w => run_float_arith w .add t .f64 a b r h
      go_enter Tryz.func25, Tryz.ntmps25
      go_wp2_with (simp only [hop])
      go_ret2
      exact ⟨r, rfl, bits_lt h, by rw [ho]; exact .inl h, Below.refl _ _⟩
    | none =>
      obtain ⟨r, h1, h2, hop⟩ := nan_draw .add (by simp) a b h w
      go_enter Tryz.func25, Tryz.ntmps25
      go_wp2_with (simp only [hop])
      go_ret2
      exact ⟨r, rfl, h1, by rw [ho]; exact .inr ⟨h, h2⟩, (Below.refl _ _).drew⟩
  · skip
    by_cases c45 : op = 45
    · subst c45
      have ho : opD 45 = some .sub := by decide
      cases h : floatBits .sub .f64 a b with
      | some r =>
        have hop : ∀ t w, (binOp .sub t (.float .f64 a) (.float .f64 b)).run Tryz.prog w = .ok (.float .f64 r) w := fun t w => run_float_arith w .sub t .f64 a b r h
        go_enter Tryz.func25, Tryz.ntmps25
        go_wp2_with (simp only [hop])
        go_ret2
        exact ⟨r, rfl, bits_lt h, by rw [ho]; exact .inl h, Below.refl _ _⟩
      | none =>
        obtain ⟨r, h1, h2, hop⟩ := nan_draw .sub (by simp) a b h w
        go_enter Tryz.func25, Tryz.ntmps25
        go_wp2_with (simp only [hop])
        go_ret2
        exact ⟨r, rfl, h1, by rw [ho]; exact .inr ⟨h, h2⟩, (Below.refl _ _).drew⟩
    · skip
      by_cases c42 : op = 42
      · subst c42
        have ho : opD 42 = some .mul := by decide
        cases h : floatBits .mul .f64 a b with
        | some r =>
          have hop : ∀ t w, (binOp .mul t (.float .f64 a) (.float .f64 b)).run Tryz.prog w = .ok (.float .f64 r) w := fun t w => run_float_arith w .mul t .f64 a b r h
          go_enter Tryz.func25, Tryz.ntmps25
          go_wp2_with (simp only [hop])
          go_ret2
          exact ⟨r, rfl, bits_lt h, by rw [ho]; exact .inl h, Below.refl _ _⟩
        | none =>
          obtain ⟨r, h1, h2, hop⟩ := nan_draw .mul (by simp) a b h w
          go_enter Tryz.func25, Tryz.ntmps25
          go_wp2_with (simp only [hop])
          go_ret2
          exact ⟨r, rfl, h1, by rw [ho]; exact .inr ⟨h, h2⟩, (Below.refl _ _).drew⟩
      · skip
        by_cases c47 : op = 47
        · subst c47
          have ho : opD 47 = some .quo := by decide
          cases h : floatBits .quo .f64 a b with
          | some r =>
            have hop : ∀ t w, (binOp .quo t (.float .f64 a) (.float .f64 b)).run Tryz.prog w = .ok (.float .f64 r) w := fun t w => run_float_arith w .quo t .f64 a b r h
            go_enter Tryz.func25, Tryz.ntmps25
            go_wp2_with (simp only [hop])
            go_ret2
            exact ⟨r, rfl, bits_lt h, by rw [ho]; exact .inl h, Below.refl _ _⟩
          | none =>
            obtain ⟨r, h1, h2, hop⟩ := nan_draw .quo (by simp) a b h w
            go_enter Tryz.func25, Tryz.ntmps25
            go_wp2_with (simp only [hop])
            go_ret2
            exact ⟨r, rfl, h1, by rw [ho]; exact .inr ⟨h, h2⟩, (Below.refl _ _).drew⟩
        · skip
          have ho : opD op = none := by unfold opD; rw [if_neg c43, if_neg c45, if_neg c42, if_neg c47]
          go_enter Tryz.func25, Tryz.ntmps25
          go_wp2
          go_ret2
          exact ⟨0, by rw [ho]; rfl, by omega, by rw [ho]; rfl, Below.refl _ _⟩
end Go.Proofs.YtghnlhadohnenaaGreatDoor
