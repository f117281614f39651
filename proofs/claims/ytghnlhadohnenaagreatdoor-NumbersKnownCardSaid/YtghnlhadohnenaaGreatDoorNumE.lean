/- The least and the greatest of a row of doubles: the walks. -/
import Derived.Test.YtghnlhadohnenaaGreatDoorNumD
import Derived.Lib.SliceRun
namespace Go.Proofs.YtghnlhadohnenaaGreatDoor
set_option exponentiation.threshold 3000
open Go.Shelf Go.RowKit Go.Lib Go.Proofs.YtghnlhadohnenaaGreatDoorW.PrintWords Go.Proofs.YtghnlhadohnenaaGreatDoorW.PrintMore
set_option linter.unusedVariables false
set_option linter.unusedSimpArgs false
def RowF (w : World) (A : Option Addr) (l : List Nat) : Prop := 0 < l.length → ∃ ad, A = some ad ∧ ∀ j, j < l.length → w.cell? (ad.add j) = some (.float .f64 (l.getD j 0))
def pick (ord : Nat → Nat → Int) (x y : Nat) : Nat := if ord y x < 0 then y else x
def firstL (ord : Nat → Nat → Int) (none_ : Nat) : List Nat → Nat
  | [] => none_
  | x :: r => r.foldl (pick ord) x
def allW (l : List Nat) : Prop := ∀ x ∈ l, x < 18446744073709551616
theorem getD_w {l : List Nat} (h : allW l) (j : Nat) : l.getD j 0 < 18446744073709551616 := by
  by_cases c : j < l.length
  · rw [List.getD_eq_getElem?_getD, List.getElem?_eq_getElem c]
    exact h _ (List.getElem_mem c)
  · rw [List.getD_eq_getElem?_getD, List.getElem?_eq_none (by omega)]
    decide
theorem fold_w (ord : Nat → Nat → Int) : ∀ (r : List Nat) (x : Nat), allW r → x < 18446744073709551616 → r.foldl (pick ord) x < 18446744073709551616
  | [], x, _, h => h
  | y :: r, x, hr, h => by
    refine fold_w ord r (pick ord x y) (fun z hz => hr z (List.mem_cons_of_mem _ hz)) ?_
    unfold pick
    split
    · exact hr y (List.mem_cons_self ..)
    · exact h
set_option maxHeartbeats 1000000 in
theorem first_any (g : Nat) (lb : Array Value) (eg : ∀ args w, (callFunc g args).run Tryz.prog w = .ok (.enter g args) w) (l : List Nat) (hl : allW l) (hn : l.length ≤ 1000000) (A : Option Addr) (c : Nat) (hc : l.length ≤ c) (none_ : Nat) (ord : Nat → Nat → Int) (w : World)
    (hr : RowF w A l) (hp : ∀ a b W, a < 18446744073709551616 → b < 18446744073709551616 → Calls Tryz.prog g (#[.float .f64 a, .float .f64 b] ++ lb) W fun e w' => e = .returned (.int .i64 (ord a b)) ∧ w' = W) :
    Calls Tryz.prog 55 #[.slice A l.length c, .float .f64 none_, .func (.func g) #[] lb] w fun e w' => e = .returned (.float .f64 (firstL ord none_ l)) ∧ w' = w := by
  have HR := Aside0.mk hr
  have HP := Aside0.mk hp
  have HL := Aside0.mk hl
  clear hr hp hl
  cases l with
  | nil =>
    go_enter Tryz.func55, Tryz.ntmps55
    go_wp2
    go_ret
    exact ⟨rfl, rfl⟩
  | cons x0 r =>
    obtain ⟨ad, rfl, hcell⟩ := HR.out (by simp)
    have h0 : w.cell? ad = some (.float .f64 x0) := by
      have := hcell 0 (by simp)
      simpa [Addr.add] using this
    have HX0 := Aside0.mk (HL.out x0 (List.mem_cons_self ..))
    have HRW : Aside0 (allW r) := Aside0.mk (fun z hz => HL.out z (List.mem_cons_of_mem _ hz))
    have HT : Aside0 (∀ k, k < r.length → (r.take (k + 1)).foldl (pick ord) x0 = pick ord ((r.take k).foldl (pick ord) x0) (r.getD k 0)) := Aside0.mk (fun k hk => by
      rw [List.take_succ_eq_append_getElem hk, List.foldl_append]
      simp [hk])
    have HCELL : Aside0 (∀ j, j < r.length → w.cell? ⟨ad.block, ad.off + 1 + j, none⟩ = some (.float .f64 (r.getD j 0))) := Aside0.mk (fun j hj => by
      have := hcell (j + 1) (by simp; omega)
      rw [show (ad.add (j + 1)) = ⟨ad.block, ad.off + 1 + j, none⟩ by unfold Addr.add; rw [if_neg (by omega)]; simp] at this
      rw [this]
      rfl)
    clear hcell HL
    rw [List.length_cons] at *
    by_cases hc1 : c = 1
    · subst hc1
      have hr0 : r = [] := List.length_eq_zero_iff.1 (by omega)
      subst hr0
      clear HT HCELL
      simp only [List.length_nil, Nat.zero_add] at *
      go_enter Tryz.func55, Tryz.ntmps55
      go_wp2
      go_loopg [7, 20] 0 (fun gg s7 s20 wr => s20 = .int .i64 0 ∧ s7 = .float .f64 x0 ∧ wr = w)
      case atStart => exact ⟨rfl, rfl, rfl⟩
      case round =>
        obtain ⟨rfl, rfl, rfl⟩ := hrel
        go_wp2
        go_ret
        exact ⟨rfl, rfl⟩
    · go_enter Tryz.func55, Tryz.ntmps55
      go_wp2
      go_loopg [7, 20] r.length (fun gg s7 s20 wr => ∃ kk : Nat, kk ≤ r.length ∧ r.length - kk ≤ gg ∧ s20 = .int .i64 kk ∧ s7 = .float .f64 ((r.take kk).foldl (pick ord) x0) ∧ wr = w)
      case atStart => exact ⟨0, Nat.zero_le _, by omega, rfl, by rfl, rfl⟩
      case round =>
        obtain ⟨kk, hkk, hg, rfl, rfl, rfl⟩ := hrel
        by_cases hlt : kk < r.length
        · have hltz : (kk : Int) < (r.length : Int) := by omega
          have hcl := HCELL.out kk hlt
          have hst := HT.out kk hlt
          have hw1 := getD_w HRW.out kk
          have hw2 := fold_w ord (r.take kk) x0 (fun z hz => HRW.out z (List.mem_of_mem_take hz)) HX0.out
          generalize (r.take kk).foldl (pick ord) x0 = cur at *
          generalize r.getD kk 0 = nw at *
          have HW1 := Aside0.mk hw1
          have HW2 := Aside0.mk hw2
          clear hw1 hw2
          have HST := Aside0.mk hst
          clear hst
          by_cases hq : ord nw cur < 0
          · have HQ : Aside0 (pick ord cur nw = nw) := Aside0.mk (if_pos hq)
            go_wp2_with (go_at_fn g; refine (HP.out _ _ _ HW1.out HW2.out).mono ?_; rintro e w' ⟨rfl, rfl⟩)
            go_roundg (r.length - (kk + 1))
            case measure => omega
            case rel => exact ⟨kk + 1, by omega, by omega, by go_num, by rw [HST.out, HQ.out], rfl⟩
          · have HQ : Aside0 (pick ord cur nw = cur) := Aside0.mk (if_neg hq)
            go_wp2_with (go_at_fn g; refine (HP.out _ _ _ HW1.out HW2.out).mono ?_; rintro e w' ⟨rfl, rfl⟩)
            go_roundg (r.length - (kk + 1))
            case measure => omega
            case rel => exact ⟨kk + 1, by omega, by omega, by go_num, by rw [HST.out, HQ.out], rfl⟩
        · have hltz : ¬ (kk : Int) < (r.length : Int) := by omega
          have : kk = r.length := by omega
          subst this
          rw [List.take_length]
          go_wp2
          go_ret
          exact ⟨rfl, rfl⟩
theorem NaN_any (w : World) : Calls Tryz.prog 38 #[] w fun e w' => e = .returned (.float .f64 9221120237041090561) ∧ w' = w := by
  have h : ∀ w, (callFunc 66 #[.int .u64 9221120237041090561]).run Tryz.prog w = .ok (.value (.float .f64 9221120237041090561)) w := Float64frombits_run 9221120237041090561
  go_enter Tryz.func38, Tryz.ntmps38
  go_wp2_with (rw [h])
  go_ret
  exact ⟨rfl, rfl⟩
theorem cmpI_turn (a b : Int) : cmpI a b = -cmpI b a := by unfold cmpI; split <;> split <;> omega
theorem Greatest1_any (a b : Nat) (ha : a < 18446744073709551616) (hb : b < 18446744073709551616) (w : World) :
    Calls Tryz.prog 56 #[.float .f64 a, .float .f64 b] w fun e w' => e = .returned (.int .i64 (cmpK b a)) ∧ w' = w := by
  have HC := Aside0.mk (Compare_any b a hb ha)
  go_enter Tryz.func56, Tryz.ntmps56
  go_wp2_with (go_at_call 22; refine (HC.out _).mono ?_; rintro e w' ⟨rfl, rfl⟩)
  go_ret
  exact ⟨rfl, rfl⟩
theorem Least_any (l : List Nat) (hl : allW l) (hn : l.length ≤ 1000000) (A : Option Addr) (c : Nat) (hc : l.length ≤ c) (w : World) (hr : RowF w A l) :
    Calls Tryz.prog 26 #[.slice A l.length c] w fun e w' => e = .returned (.float .f64 (firstL cmpK 9221120237041090561 l)) ∧ w' = w := by
  have eg : ∀ args w, (callFunc 22 args).run Tryz.prog w = .ok (.enter 22 args) w := enters_of Tryz.func22 (by kernel_rfl) rfl
  have HF := Aside0.mk (first_any 22 #[] eg l hl hn A c hc 9221120237041090561 cmpK w hr (fun a b W ha hb => Compare_any a b ha hb W))
  have HN := Aside0.mk NaN_any
  clear eg hr hl
  go_enter Tryz.func26, Tryz.ntmps26
  go_wp2_with (first | (go_at_call 38; refine (HN.out _).mono ?_; rintro e w' ⟨rfl, rfl⟩) | (go_at_call 55; refine (HF.out).mono ?_; rintro e w' ⟨rfl, rfl⟩))
  go_ret
  exact ⟨rfl, rfl⟩
theorem Greatest_any (l : List Nat) (hl : allW l) (hn : l.length ≤ 1000000) (A : Option Addr) (c : Nat) (hc : l.length ≤ c) (w : World) (hr : RowF w A l) :
    Calls Tryz.prog 28 #[.slice A l.length c] w fun e w' => e = .returned (.float .f64 (firstL (fun a b => cmpK b a) 9221120237041090561 l)) ∧ w' = w := by
  have eg : ∀ args w, (callFunc 56 args).run Tryz.prog w = .ok (.enter 56 args) w := enters_of Tryz.func56 (by kernel_rfl) rfl
  have HF := Aside0.mk (first_any 56 #[] eg l hl hn A c hc 9221120237041090561 (fun a b => cmpK b a) w hr (fun a b W ha hb => Greatest1_any a b ha hb W))
  have HN := Aside0.mk NaN_any
  clear eg hr hl
  go_enter Tryz.func28, Tryz.ntmps28
  go_wp2_with (first | (go_at_call 38; refine (HN.out _).mono ?_; rintro e w' ⟨rfl, rfl⟩) | (go_at_call 55; refine (HF.out).mono ?_; rintro e w' ⟨rfl, rfl⟩))
  go_ret
  exact ⟨rfl, rfl⟩
theorem zero_quo : floatBits .quo .f64 0 0 = none := by decide +kernel
set_option maxHeartbeats 1000000 in
theorem refLeast_any (l : List Nat) (hl : allW l) (hn : l.length ≤ 1000000) (A : Option Addr) (c : Nat) (hc : l.length ≤ c) (w : World) (hr : RowF w A l) :
    Calls Tryz.prog 27 #[.slice A l.length c] w fun e w' => ∃ r0, e = .returned (.float .f64 (l.foldl (pick cmpK) r0)) ∧ r0 < 18446744073709551616 ∧ nanB r0 = true ∧ w' = w.drew := by
  obtain ⟨r0, h1, h2, hop⟩ := nan_draw .quo (by simp) 0 0 zero_quo w
  have HR : Aside0 (RowF w.drew A l) := Aside0.mk hr
  have HC := Aside0.mk refCompare_any
  have HT : Aside0 (∀ k, k < l.length → (l.take (k + 1)).foldl (pick cmpK) r0 = pick cmpK ((l.take k).foldl (pick cmpK) r0) (l.getD k 0)) := Aside0.mk (fun k hk => by
    rw [List.take_succ_eq_append_getElem hk, List.foldl_append]
    simp [hk])
  have HL := Aside0.mk hl
  have HFW : Aside0 (∀ r, allW r → r.foldl (pick cmpK) r0 < 18446744073709551616) := Aside0.mk (fun r h => fold_w cmpK r r0 h h1)
  have HFI := HFW.out l hl
  clear hr hl
  have H1 := Aside0.mk h1
  have H2 := Aside0.mk h2
  clear h1 h2
  go_enter Tryz.func27, Tryz.ntmps27
  go_wp2_with (simp only [hop])
  clear hop
  go_loopg [4, 5] l.length (fun gg s4 s5 wr => ∃ kk : Nat, kk ≤ l.length ∧ l.length - kk ≤ gg ∧ s5 = .int .i64 kk ∧ s4 = .float .f64 ((l.take kk).foldl (pick cmpK) r0) ∧ wr = w.drew)
  case atStart => exact ⟨0, Nat.zero_le _, by omega, rfl, by rfl, rfl⟩
  case round =>
    obtain ⟨kk, hkk, hg, rfl, rfl, rfl⟩ := hrel
    by_cases hlt : kk < l.length
    · have hltz : (kk : Int) < (l.length : Int) := by omega
      obtain ⟨ad, rfl, hcell⟩ := HR.out (by omega)
      have hcl := hcell kk hlt
      have hst := HT.out kk hlt
      have hw1 := getD_w HL.out kk
      have hw2 := HFW.out (l.take kk) (fun z hz => HL.out z (List.mem_of_mem_take hz))
      clear hcell
      generalize (l.take kk).foldl (pick cmpK) r0 = cur at *
      generalize l.getD kk 0 = nw at *
      have HW1 := Aside0.mk hw1
      have HW2 := Aside0.mk hw2
      clear hw1 hw2
      have HST := Aside0.mk hst
      clear hst
      by_cases hq : cmpK nw cur < 0
      · have HQ : Aside0 (pick cmpK cur nw = nw) := Aside0.mk (if_pos hq)
        go_wp2_with (go_at_call 23; refine (HC.out _ _ HW1.out HW2.out _).mono ?_; rintro e w' ⟨rfl, rfl⟩)
        go_roundg (l.length - (kk + 1))
        case measure => omega
        case rel => exact ⟨kk + 1, by omega, by omega, by go_num, by rw [HST.out, HQ.out], rfl⟩
      · have HQ : Aside0 (pick cmpK cur nw = cur) := Aside0.mk (if_neg hq)
        go_wp2_with (go_at_call 23; refine (HC.out _ _ HW1.out HW2.out _).mono ?_; rintro e w' ⟨rfl, rfl⟩)
        go_roundg (l.length - (kk + 1))
        case measure => omega
        case rel => exact ⟨kk + 1, by omega, by omega, by go_num, by rw [HST.out, HQ.out], rfl⟩
    · have hltz : ¬ (kk : Int) < (l.length : Int) := by omega
      have : kk = l.length := by omega
      subst this
      rw [List.take_length]
      go_wp2
      go_ret
      exact ⟨r0, rfl, H1.out, H2.out, rfl⟩
def pickG (x y : Nat) : Nat := if cmpK y x > 0 then y else x
theorem foldG_w : ∀ (r : List Nat) (x : Nat), allW r → x < 18446744073709551616 → r.foldl pickG x < 18446744073709551616
  | [], x, _, h => h
  | y :: r, x, hr, h => by
    refine foldG_w r (pickG x y) (fun z hz => hr z (List.mem_cons_of_mem _ hz)) ?_
    unfold pickG
    split
    · exact hr y (List.mem_cons_self ..)
    · exact h
/-- What the reference's Greatest gives. -/
def refG (l : List Nat) (r : Nat) : Prop := match l with
  | [] => nanB r = true
  | x :: t => r = (x :: t).foldl pickG x
set_option maxHeartbeats 1000000 in
theorem refGreatest_any (l : List Nat) (hl : allW l) (hn : l.length ≤ 1000000) (A : Option Addr) (c : Nat) (hc : l.length ≤ c) (w : World) (hr : RowF w A l) :
    Calls Tryz.prog 29 #[.slice A l.length c] w fun e w' => ∃ r, e = .returned (.float .f64 r) ∧ r < 18446744073709551616 ∧ refG l r ∧ Below w.heap.size w w' := by
  by_cases he : l = []
  · subst he
    have HLE := Aside0.mk (refLeast_any [] hl hn A c hc w hr)
    clear hr hl
    simp only [List.length_nil] at *
    go_enter Tryz.func29, Tryz.ntmps29
    go_wp2_with (go_at_call 27; refine (HLE.out).mono ?_; rintro e w' ⟨r0, rfl, h1, h2, rfl⟩)
    go_ret
    exact ⟨r0, rfl, h1, h2, (Below.refl _ _).drew⟩
  have hpos : 0 < l.length := List.length_pos_iff.2 he
  have hnz : ((l.length : Int) == 0) = false := by simp; exact he
  obtain ⟨x0, hx0⟩ : ∃ x0, x0 = l.getD 0 0 := ⟨_, rfl⟩
  have HRG : Aside0 (∀ r, r = l.foldl pickG x0 → refG l r) := Aside0.mk (fun r hr => by
    cases l with
    | nil => exact absurd rfl he
    | cons y t => rw [hx0] at hr; exact hr)
  have HX := Aside0.mk (getD_w hl 0)
  rw [← hx0] at HX
  obtain ⟨ad, rfl, hcell⟩ := hr hpos
  have hc0 : w.cell? ad = some (.float .f64 x0) := by
    have := hcell 0 hpos
    rw [hx0]
    simpa [Addr.add] using this
  have HR := Aside0.mk hcell
  have HFW : Aside0 (∀ r, allW r → r.foldl pickG x0 < 18446744073709551616) := Aside0.mk (fun r h => foldG_w r x0 h HX.out)
  have HC := Aside0.mk refCompare_any
  have HT : Aside0 (∀ k, k < l.length → (l.take (k + 1)).foldl pickG x0 = pickG ((l.take k).foldl pickG x0) (l.getD k 0)) := Aside0.mk (fun k hk => by
    rw [List.take_succ_eq_append_getElem hk, List.foldl_append]
    simp [hk])
  have HL := Aside0.mk hl
  clear hcell hl hx0
  go_enter Tryz.func29, Tryz.ntmps29
  go_wp2
  go_loopg [3, 4] l.length (fun gg s3 s4 wr => ∃ kk : Nat, kk ≤ l.length ∧ l.length - kk ≤ gg ∧ s4 = .int .i64 kk ∧ s3 = .float .f64 ((l.take kk).foldl (pickG) x0) ∧ wr = w)
  case atStart => exact ⟨0, Nat.zero_le _, by omega, rfl, by rfl, rfl⟩
  case round =>
    obtain ⟨kk, hkk, hg, rfl, rfl, rfl⟩ := hrel
    by_cases hlt : kk < l.length
    · have hltz : (kk : Int) < (l.length : Int) := by omega
      have hcl := HR.out kk hlt
      have hst := HT.out kk hlt
      have hw1 := getD_w HL.out kk
      have hw2 := HFW.out (l.take kk) (fun z hz => HL.out z (List.mem_of_mem_take hz))
      generalize (l.take kk).foldl (pickG) x0 = cur at *
      generalize l.getD kk 0 = nw at *
      have HW1 := Aside0.mk hw1
      have HW2 := Aside0.mk hw2
      clear hw1 hw2
      have HST := Aside0.mk hst
      clear hst
      by_cases hq : cmpK nw cur > 0
      · have HQ : Aside0 (pickG cur nw = nw) := Aside0.mk (if_pos hq)
        go_wp2_with (go_at_call 23; refine (HC.out _ _ HW1.out HW2.out _).mono ?_; rintro e w' ⟨rfl, rfl⟩)
        go_roundg (l.length - (kk + 1))
        case measure => omega
        case rel => exact ⟨kk + 1, by omega, by omega, by go_num, by rw [HST.out, HQ.out], rfl⟩
      · have HQ : Aside0 (pickG cur nw = cur) := Aside0.mk (if_neg hq)
        go_wp2_with (go_at_call 23; refine (HC.out _ _ HW1.out HW2.out _).mono ?_; rintro e w' ⟨rfl, rfl⟩)
        go_roundg (l.length - (kk + 1))
        case measure => omega
        case rel => exact ⟨kk + 1, by omega, by omega, by go_num, by rw [HST.out, HQ.out], rfl⟩
    · have hltz : ¬ (kk : Int) < (l.length : Int) := by omega
      have : kk = l.length := by omega
      subst this
      rw [List.take_length]
      go_wp2
      go_ret
      exact ⟨_, rfl, HFW.out l HL.out, HRG.out _ rfl, Below.refl _ _⟩
end Go.Proofs.YtghnlhadohnenaaGreatDoor
