/- Plain laws: texts there and back; VersionBack. -/
import Derived.Test.YtnbmdecehlljcaaDoorPVerx15
import Derived.Test.YtnbmdecehlljcaaDoorVerS2
namespace Go.Proofs.YtnbmdecehlljcaaDoor
open Go.RowKit Go.Lib Go.Proofs.YtnbmdecehlljcaaDoorW.PrintWords Go.Proofs.YtnbmdecehlljcaaDoorW.PrintLast Go.Proofs.YtnbmdecehlljcaaDoorW.PrintMore PVer
set_option linter.unusedVariables false
set_option linter.unusedSimpArgs false
theorem print_prog (l : List Int) (t : ByteArray) (hl : l.length ≤ 1000000) (ht : t.size ≤ 1000000) : version_Print.f l t = some (if okV l t.data.toList then (⟨(printV l t.data.toList).toArray⟩, 0) else (⟨#[]⟩, 130)) := by
  unfold version_Print.f
  rw [if_pos ⟨hl, ht⟩]
theorem printV_len (l : List Int) (t : List UInt8) (h : okV l t = true) : (printV l t).length ≤ 97 := by
  unfold okV tagB at h
  simp only [Bool.and_eq_true, decide_eq_true_eq] at h
  have h1 := joinOn_len 46 (l.map fun n => decDigits n.toNat) (fun p hp => by
    obtain ⟨n, hn, rfl⟩ := List.mem_map.1 hp
    have := List.all_eq_true.1 h.1.2 n hn
    simp only [Bool.and_eq_true, decide_eq_true_eq] at this
    exact dec_len _ (by omega))
  rw [List.length_map] at h1
  unfold printV
  rw [List.length_append]
  split
  · simp; omega
  · simp only [List.length_cons]; omega
theorem back_j1 (l : List Int) (t : ByteArray) (hl : l.length ≤ 100) (ht : t.size ≤ 100) : Ev (fun k => tithebarnlaw13_VersionBack.j1 k l t) true := by
  by_cases hok : okV l t.data.toList = true
  · have hpl := printV_len l t.data.toList hok
    have hpp := parseV_print hok
    have hsz : (⟨(printV l t.data.toList).toArray⟩ : ByteArray).size ≤ 1000000 := by simp [ByteArray.size]; omega
    have htr : tripleV ⟨(printV l t.data.toList).toArray⟩ = (l, t, 0) := by
      unfold tripleV
      show (numsOf (parseV (printV l t.data.toList)), _, errOf (parseV (printV l t.data.toList))) = _
      rw [show (⟨(printV l t.data.toList).toArray⟩ : ByteArray).data.toList = printV l t.data.toList from rfl, hpp]
      have : (⟨t.data.toList.toArray⟩ : ByteArray) = t := ba_eq.2 rfl
      simp only [numsOf, tagOf, errOf, this]
    have hc0 : cmpV l t.data.toList l t.data.toList = 0 := (cmpV_zero _ _ _ _).2 ⟨rfl, rfl⟩
    refine Ev.step (f := fun k => (tithebarnkit_SameInts.f k l l).bind fun t253 => (if t253 = true then (if t.toList = t.toList then (some true) else (some false)) else (some false))) (fun k => ?_) (Ev.bind (same_ev l l (by omega)) (Ev.ite_pos (by simp) (Ev.ite_pos rfl (Ev.now _))))
    simp only [tithebarnlaw13_VersionBack.j1]
    rw [print_prog l t (by omega) (by omega), if_pos hok, Option.bind_some]
    simp only
    rw [if_pos trivial, parse_prog _ hsz, htr, Option.bind_some]
    simp only
    rw [if_pos trivial, compare_f l t l t hl hl ht ht, Option.bind_some, hc0, if_pos rfl]
    rfl
  · refine Ev.step (f := fun _ => some true) (fun k => ?_) (Ev.now _)
    simp only [tithebarnlaw13_VersionBack.j1]
    rw [print_prog l t (by omega) (by omega), if_neg hok, Option.bind_some]
    simp only
    rw [if_neg (by decide), if_pos (by rw [ByteArray.toList_eq])]
    rfl
theorem back_j0 (s : ByteArray) (f : Bool) (l : List Int) (t : ByteArray) (hs : s.size ≤ 500) (hl : l.length ≤ 100) (hf : f = decide ((t.size : Int) > 100)) : Ev (fun k => tithebarnlaw13_VersionBack.j0 k s f l t) true := by
  by_cases ht : t.size ≤ 100
  · have : f = false := by rw [hf]; simp; omega
    subst this
    have hj := back_j1 l t hl ht
    cases hp : parseV s.data.toList with
    | none =>
      refine Ev.step (fun k => ?_) hj
      simp only [tithebarnlaw13_VersionBack.j0]
      rw [if_neg (by decide), parse_prog s (by omega), Option.bind_some]
      have : errOf (parseV s.data.toList) = 130 := by rw [hp]; rfl
      unfold tripleV
      simp only
      rw [if_neg (by rw [this]; decide)]
    | some x =>
      have hps := parseV_some (ns := x.1) (t := x.2) hp
      have hok := hps.1
      have hn := nums_len s
      have htr : tripleV s = (x.1, ⟨x.2.toArray⟩, 0) := by unfold tripleV; rw [hp]; rfl
      rw [hp] at hn
      simp only [numsOf, tagOf] at hn
      refine Ev.step (fun k => ?_) hj
      simp only [tithebarnlaw13_VersionBack.j0]
      rw [if_neg (by decide), parse_prog s (by omega), htr, Option.bind_some]
      simp only
      rw [if_pos trivial, print_prog _ _ (by omega) (by simp [ByteArray.size]; omega), if_pos (show okV x.1 (⟨x.2.toArray⟩ : ByteArray).data.toList = true from hok), Option.bind_some]
      simp only
      rw [if_pos trivial, if_pos (by rw [ByteArray.toList_eq, ByteArray.toList_eq]; exact hps.2)]
  · have : f = true := by rw [hf]; simp; omega
    subst this
    refine Ev.step (f := fun _ => some true) (fun k => ?_) (Ev.now _)
    simp only [tithebarnlaw13_VersionBack.j0]
    rfl
theorem back_true (s : ByteArray) (l : List Int) (t : ByteArray) : Ev (fun k => tithebarnlaw13_VersionBack.j0 k s true l t) true := by
  refine Ev.step (f := fun _ => some true) (fun k => ?_) (Ev.now _)
  simp only [tithebarnlaw13_VersionBack.j0]
  rfl
theorem pure_VersionBack : ∀ (a0 : ByteArray) (l1_0 : (List Int)) (a1_1 : ByteArray), a0.size ≤ maxLen → (l1_0.length ≤ maxLen ∧ ∀ y0 ∈ l1_0, (Lit.int .i64 y0).wf = true) → a1_1.size ≤ maxLen → ∃ k, PVer.tithebarnlaw13_VersionBack.f k a0 l1_0 a1_1 = some true := by
  intro s l t _ _ _
  refine Ev.rounds (g := fun k => tithebarnlaw13_VersionBack.f k s l t) ?_
  unfold tithebarnlaw13_VersionBack.f
  by_cases h1 : (s.size : Int) > 500
  · exact Ev.ite_pos h1 (back_true s l t)
  · refine Ev.ite_neg h1 ?_
    by_cases h2 : (l.length : Int) > 100
    · exact Ev.ite_pos h2 (back_true s l t)
    · exact Ev.ite_neg h2 (back_j0 s _ l t (by omega) (by omega) rfl)
end Go.Proofs.YtnbmdecehlljcaaDoor
