/- Plain law: VersionKnown. -/
import Derived.Test.YtnbmdecehlljcaaGreatDoorPVerx19
import Derived.Test.YtnbmdecehlljcaaGreatDoorVerKm
namespace Go.Proofs.YtnbmdecehlljcaaGreatDoor
open Go.RowKit Go.Lib Go.Proofs.YtnbmdecehlljcaaGreatDoorW.PrintWords Go.Proofs.YtnbmdecehlljcaaGreatDoorW.PrintLast Go.Proofs.YtnbmdecehlljcaaGreatDoorW.PrintMore PVer
set_option linter.unusedVariables false
set_option linter.unusedSimpArgs false
theorem rdOf_small (x1 : List ByteArray) (h : ∀ s ∈ x1, s.size ≤ 500) (z : Int) : (rdOf ByteArray.empty x1 z).size ≤ 500 := by
  unfold rdOf
  rw [List.getD_eq_getElem?_getD]
  cases e : x1[z.toNat]? with
  | none => exact Nat.zero_le _
  | some s => exact h s (List.mem_of_getElem? e)
theorem known_l1 (x1 x2 : List ByteArray) (h1 : ∀ s ∈ x1, s.size ≤ 500) (hl : x1.length ≤ 1000) (i : Nat) (hi : i < x1.length) (v : List Int) (t : ByteArray)
    (hn : Ev (fun k => tithebarnlaw13_VersionKnown.l0 k x1 x2 ((i + 1 : Nat) : Int)) true) : ∀ (d j : Nat), j + d = x1.length → Ev (fun k => tithebarnlaw13_VersionKnown.l1 k x1 x2 (i : Int) (j : Int) v t) true := by
  intro d
  induction d with
  | zero =>
    intro j hj
    refine Ev.step (fun k => ?_) hn
    simp only [tithebarnlaw13_VersionKnown.l1]
    rw [if_neg (by omega), wrap_id (by omega) (by omega)]
    rfl
  | succ d ih =>
    intro j hj
    have ih2 := ih (j + 1) (by omega)
    refine Ev.step (f := fun k => (tithebarnref13_Parse.f k (rdOf ByteArray.empty x1 (j : Int))).bind fun bt306 => (tithebarnlaw13_VersionCompare.f k v t bt306.1 bt306.2.1 (rdOf ByteArray.empty x1 (i : Int)) (rdOf ByteArray.empty x1 (j : Int))).bind fun t315 => if t315 = true then ((tithebarnlaw13_VersionOrder.f k v t bt306.1 bt306.2.1 (([1, 2] : List Int)) (⟨#[]⟩ : ByteArray)).bind fun t319 => (if t319 = true then (tithebarnlaw13_VersionKnown.l1 k x1 x2 (i : Int) ((j + 1 : Nat) : Int) v t) else (some false))) else (some false)) (fun k => ?_)
      (Ev.bind (parse_ev _ (rdOf_small x1 h1 _)) (Ev.bind (true_VersionCompare _ _ _ _ _ _) (Ev.ite_pos rfl (Ev.bind (true_VersionOrder _ _ _ _ _ _) (Ev.ite_pos rfl ih2)))))
    simp only [tithebarnlaw13_VersionKnown.l1]
    rw [if_pos (by omega), if_pos (by omega)]
    congr 1
    funext b
    rw [if_pos (by omega), if_pos (by omega), wrap_id (by omega) (by omega)]
    rfl
theorem known_end (x1 x2 : List ByteArray) (i : Nat) (hi : x1.length ≤ i) : Ev (fun k => tithebarnlaw13_VersionKnown.l0 k x1 x2 (i : Int)) true := by
  refine Ev.step (f := fun k => (tithebarnlaw13_VersionSort.f k x2).bind fun t324 => (if t324 = true then ((tithebarnlaw13_VersionSort.f k (([(⟨#[50]⟩ : ByteArray), (⟨#[49, 46, 49, 48]⟩ : ByteArray), (⟨#[49, 46, 50]⟩ : ByteArray), (⟨#[49, 46, 50, 45, 97]⟩ : ByteArray), (⟨#[49, 46, 50]⟩ : ByteArray)] : List ByteArray))).bind fun t328 => (if t328 = true then ((tithebarnlaw13_VersionPrint.f k (List.replicate 9 0 : List Int) (⟨#[]⟩ : ByteArray)).bind fun t329 => (if t329 = true then ((tithebarnlaw13_VersionPrint.f k (([(-1)] : List Int)) (⟨#[]⟩ : ByteArray)).bind fun t333 => (if t333 = true then ((tithebarnlaw13_VersionPrint.f k (([1000000000] : List Int)) (⟨#[]⟩ : ByteArray)).bind fun t337 => (if t337 = true then ((tithebarnlaw13_VersionPrint.f k (([1] : List Int)) (⟨#[65]⟩ : ByteArray)).bind fun t341 => (if t341 = true then ((tithebarnlaw13_VersionOrder.f k (List.replicate 9 0 : List Int) (⟨#[]⟩ : ByteArray) ([] : List Int) (⟨#[]⟩ : ByteArray) ([] : List Int) (⟨#[97]⟩ : ByteArray)).bind fun t342 => (if t342 = true then ((tithebarnlaw13_works.f).bind fun t343 => (some t343)) else (some false))) else (some false))) else (some false))) else (some false))) else (some false))) else (some false))) else (some false))) (fun k => ?_)
    (Ev.bind (true_VersionSort _) (Ev.ite_pos rfl (Ev.bind (true_VersionSort _) (Ev.ite_pos rfl (Ev.bind (true_VersionPrint _ _) (Ev.ite_pos rfl (Ev.bind (true_VersionPrint _ _) (Ev.ite_pos rfl (Ev.bind (true_VersionPrint _ _) (Ev.ite_pos rfl (Ev.bind (true_VersionPrint _ _) (Ev.ite_pos rfl (Ev.bind (true_VersionOrder _ _ _ _ _ _) (Ev.ite_pos rfl (Ev.const rfl)))))))))))))))
  simp only [tithebarnlaw13_VersionKnown.l0]
  rw [if_neg (by omega), if_pos (by omega)]
  rfl
theorem known_l0 (x1 : List ByteArray) (h1 : ∀ s ∈ x1, s.size ≤ 500) (hl : x1.length ≤ 1000) : ∀ (d i : Nat) (x2 : List ByteArray), i + d = x1.length → x2.length ≤ i → Ev (fun k => tithebarnlaw13_VersionKnown.l0 k x1 x2 (i : Int)) true := by
  intro d
  induction d with
  | zero => exact fun i x2 hi _ => known_end x1 x2 i (by omega)
  | succ d ih =>
    intro i x2 hi h2
    have hp := parse_ev (rdOf ByteArray.empty x1 (i : Int)) (rdOf_small x1 h1 _)
    generalize tripleV (rdOf ByteArray.empty x1 (i : Int)) = q at hp
    have hj : Ev (fun k => tithebarnlaw13_VersionKnown.j1 k x1 x2 (i : Int) q.2.2 false q.1 q.2.1) true := by
      have h2j : ∀ y : List ByteArray, y.length ≤ i + 1 → Ev (fun k => tithebarnlaw13_VersionKnown.j2 k x1 y (i : Int) q.1 q.2.1) true := fun y hy => by
        refine Ev.step (fun k => ?_) (known_l1 x1 y h1 hl i (by omega) q.1 q.2.1 (ih (i + 1) y (by omega) hy) x1.length 0 (by omega))
        simp only [tithebarnlaw13_VersionKnown.j2]
        rfl
      by_cases he : q.2.2 = 0
      · refine Ev.step (fun k => ?_) (h2j (x2 ++ [rdOf ByteArray.empty x1 (i : Int)]) (by simp; omega))
        simp only [tithebarnlaw13_VersionKnown.j1]
        rw [if_neg (by decide), if_pos he, if_pos (by omega), if_pos (by omega), if_pos (by omega)]
      · refine Ev.step (fun k => ?_) (h2j x2 (by omega))
        simp only [tithebarnlaw13_VersionKnown.j1]
        rw [if_neg (by decide), if_neg he]
    refine Ev.step (f := fun k => (tithebarnref13_Parse.f k (rdOf ByteArray.empty x1 (i : Int))).bind fun bt284 => ((tithebarnlaw13_VersionParse.f k (rdOf ByteArray.empty x1 (i : Int))).bind fun t292 => (if t292 = true then ((tithebarnlaw13_VersionBack.f k (rdOf ByteArray.empty x1 (i : Int)) bt284.1 bt284.2.1).bind fun t294 => (if t294 = true then ((tithebarnlaw13_VersionPrint.f k bt284.1 bt284.2.1).bind fun t295 => (if t295 = true then ((tithebarnlaw13_VersionSort.f k (([(⟨#[51]⟩ : ByteArray), rdOf ByteArray.empty x1 (i : Int), (⟨#[49]⟩ : ByteArray)] : List ByteArray))).bind fun t300 => (tithebarnlaw13_VersionKnown.j1 k x1 x2 (i : Int) bt284.2.2 (!t300) bt284.1 bt284.2.1)) else (tithebarnlaw13_VersionKnown.j1 k x1 x2 (i : Int) bt284.2.2 true bt284.1 bt284.2.1))) else (tithebarnlaw13_VersionKnown.j1 k x1 x2 (i : Int) bt284.2.2 true bt284.1 bt284.2.1))) else (tithebarnlaw13_VersionKnown.j1 k x1 x2 (i : Int) bt284.2.2 true bt284.1 bt284.2.1)))) (fun k => ?_)
      (Ev.bind hp (Ev.bind (true_VersionParse _) (Ev.ite_pos rfl (Ev.bind (true_VersionBack _ _ _) (Ev.ite_pos rfl (Ev.bind (true_VersionPrint _ _) (Ev.ite_pos rfl (Ev.bind (true_VersionSort _) hj))))))))
    simp only [tithebarnlaw13_VersionKnown.l0]
    rw [if_pos (by omega), if_pos (by omega)]
theorem pure_VersionKnown : ∃ k, PVer.tithebarnlaw13_VersionKnown.f k = some true := by
  refine Ev.rounds (g := fun k => tithebarnlaw13_VersionKnown.f k) ?_
  unfold tithebarnlaw13_VersionKnown.f
  exact known_l0 _ (by decide) (by decide) 34 0 [] (by decide) (Nat.le_refl _)
end Go.Proofs.YtnbmdecehlljcaaGreatDoor
