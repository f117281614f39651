/- Plain laws: the reference's Parse is the program's; VersionParse. -/
import Derived.Test.YtnbmdecehlljcaaDoorVerS
namespace Go.Proofs.YtnbmdecehlljcaaDoor
open Go.RowKit Go.Lib Go.Proofs.YtnbmdecehlljcaaDoorW.PrintWords Go.Proofs.YtnbmdecehlljcaaDoorW.PrintLast Go.Proofs.YtnbmdecehlljcaaDoorW.PrintMore PVer
set_option linter.unusedVariables false
set_option linter.unusedSimpArgs false
def finishP (nums : List Int) (ps : List (List UInt8)) (tag : ByteArray) : List Int × ByteArray × Int := match partsNums ps with
  | none => ([], ⟨#[]⟩, 130)
  | some ns => if (nums ++ ns).length > 8 then ([], ⟨#[]⟩, 130) else (nums ++ ns, tag, 0)
theorem finish_cons (nums : List Int) (p : List UInt8) (r : List (List UInt8)) (tag : ByteArray) (u : Nat) (h : progNum p = some u) : finishP nums (p :: r) tag = finishP (nums ++ [(u : Int)]) r tag := by
  unfold finishP
  conv => lhs; rw [partsNums]
  rw [h]
  cases partsNums r with
  | none => rfl
  | some l => simp
theorem finish_bad (nums : List Int) (p : List UInt8) (r : List (List UInt8)) (tag : ByteArray) (h : progNum p = none) : finishP nums (p :: r) tag = ([], ⟨#[]⟩, 130) := by
  unfold finishP
  rw [partsNums, h]
theorem take_snoc {α : Type} (l : List α) (n : Nat) (h : n < l.length) : l.take (n + 1) = l.take n ++ [l[n]] := by
  rw [List.take_add_one, List.getElem?_eq_getElem h]
  rfl
/-- One part, read: the road behind the part's end. -/
theorem parse_part (s tag : ByteArray) (E i from_ : Nat) (nums : List Int) (hs : s.size ≤ 500) (hi : i ≤ s.size) (hf : from_ ≤ i) (hn : nums.length ≤ i)
    (R : List Int × ByteArray × Int) (p : List UInt8) (hp : p = (s.data.toList.drop from_).take (i - from_))
    (hgood : ∀ u : Nat, progNum p = some u → Ev (fun k => tithebarnref13_Parse.l1 k s (E : Int) ((i + 1 : Nat) : Int) ((i + 1 : Nat) : Int) (nums ++ [(u : Int)]) tag) R)
    (hbad : progNum p = none → R = ([], ⟨#[]⟩, 130)) :
    Ev (fun k => tithebarnref13_Parse.j3 k s (E : Int) (from_ : Int) (i : Int) false nums tag) R := by
  have he := ext_list s from_ i
  have hsz : (s.extract from_ i).size ≤ 1000000 := by
    rw [Lib.size_eq, he, List.length_take, List.length_drop, ← Lib.size_eq]
    omega
  obtain ⟨v, hv, hvc⟩ := number_ev (s.extract from_ i) hsz
  rw [he, ← hp] at hv hvc
  refine Ev.step (f := fun k => (tithebarnref13_number.f k (s.extract from_ i)).bind fun bt104 => (if bt104.2 = true then (if nums.length < 17592186044416 then (tithebarnref13_Parse.l1 k s (E : Int) ((i + 1 : Nat) : Int) ((i + 1 : Nat) : Int) (nums ++ [bt104.1]) tag) else (none)) else (some (([] : List Int), (⟨#[]⟩ : ByteArray), 130)))) (fun k => ?_) (Ev.bind hv ?_)
  · simp only [tithebarnref13_Parse.j3]
    rw [if_neg (by decide), if_pos (by omega), if_pos (by omega), if_pos (by omega), wrap_id (by omega) (by omega)]
    rfl
  · by_cases hc : canonB p = true
    · have hpn : progNum p = some (valF 0 p) := by rw [progNum_eq, if_pos hc]
      refine Ev.ite_pos hc (Ev.ite_pos (by omega) ?_)
      have := hgood _ hpn
      rw [← hvc hc] at this
      exact this
    · have hpn : progNum p = none := by rw [progNum_eq, if_neg hc]
      refine Ev.ite_neg hc ?_
      rw [hbad hpn]
      exact Ev.now _
theorem parse_done (s tag : ByteArray) (E : Nat) (hs : s.size ≤ 500) (hE : E ≤ s.size) (nums : List Int) : Ev (fun k => tithebarnref13_Parse.l1 k s (E : Int) ((E + 1 : Nat) : Int) ((E + 1 : Nat) : Int) nums tag) (finishP nums [] tag) := by
  refine Ev.step (f := fun _ => some (finishP nums [] tag)) (fun k => ?_) (Ev.now _)
  simp only [tithebarnref13_Parse.l1]
  rw [if_neg (by omega)]
  unfold finishP
  simp only [partsNums, List.append_nil]
  by_cases h : nums.length > 8
  · rw [if_pos (by omega), if_pos h]
  · rw [if_neg (by omega), if_neg h]
theorem parse_l1 (s tag : ByteArray) (E : Nat) (hs : s.size ≤ 500) (hE : E ≤ s.size) : ∀ (d i from_ : Nat) (nums : List Int), i + d = E → from_ ≤ i → nums.length ≤ i → (46 : UInt8) ∉ ((s.data.toList.take E).drop from_).take (i - from_) →
    Ev (fun k => tithebarnref13_Parse.l1 k s (E : Int) (from_ : Int) (i : Int) nums tag) (finishP nums (splitOn 46 ((s.data.toList.take E).drop from_)) tag) := by
  have hL : s.data.toList.length = s.size := (Lib.size_eq s).symm
  have haL : (s.data.toList.take E).length = E := by rw [List.length_take]; omega
  have hpe : ∀ i from_, i ≤ E → from_ ≤ i → (s.data.toList.drop from_).take (i - from_) = ((s.data.toList.take E).drop from_).take (i - from_) := by
    intro i from_ h1 h2
    rw [List.drop_take, List.take_take]
    congr 1
    omega
  intro d
  induction d with
  | zero =>
    intro i from_ nums hi hf hn h46
    have hiE : i = E := by omega
    subst hiE
    have hall : ((s.data.toList.take i).drop from_).take (i - from_) = (s.data.toList.take i).drop from_ := List.take_of_length_le (by rw [List.length_drop, haL]; omega)
    rw [hall] at h46
    refine Ev.step (f := fun k => tithebarnref13_Parse.j3 k s (i : Int) (from_ : Int) (i : Int) false nums tag) (fun k => ?_) (parse_part s tag i i from_ nums hs (by omega) hf hn _ _ rfl ?_ ?_)
    · simp only [tithebarnref13_Parse.l1]
      rw [if_pos (by omega), if_neg (by omega)]
    · intro u hu
      rw [hpe i from_ (Nat.le_refl _) hf, hall] at hu
      rw [splitOn_none 46 _ h46, finish_cons _ _ _ _ _ hu]
      exact parse_done s tag i hs hE _
    · intro hu
      rw [hpe i from_ (Nat.le_refl _) hf, hall] at hu
      rw [splitOn_none 46 _ h46]
      exact finish_bad _ _ _ _ hu
  | succ d ih =>
    intro i from_ nums hi hf hn h46
    have hil : i < s.data.toList.length := by omega
    have hb := bt_nat s i hil
    have hia : i < (s.data.toList.take E).length := by omega
    have hget : (s.data.toList.take E)[i]'hia = s.data.toList[i]'hil := by simp
    have hdf : i - from_ < ((s.data.toList.take E).drop from_).length := by rw [List.length_drop]; omega
    have hgf : ((s.data.toList.take E).drop from_)[i - from_]'hdf = s.data.toList[i]'hil := by
      rw [← hget, List.getElem_drop]
      congr 1
      omega
    by_cases hc : s.data.toList[i]'hil = 46
    · have hflag : ((bt s (i : Int)) != 46) = false := by rw [hb, hc]; rfl
      have hsplit : (s.data.toList.take E).drop from_ = ((s.data.toList.take E).drop from_).take (i - from_) ++ 46 :: (s.data.toList.take E).drop (i + 1) := by
        conv => lhs; rw [← List.take_append_drop (i - from_) ((s.data.toList.take E).drop from_)]
        congr 1
        rw [List.drop_eq_getElem_cons hdf, hgf, hc, List.drop_drop]
        congr 2
        omega
      refine Ev.step (f := fun k => tithebarnref13_Parse.j3 k s (E : Int) (from_ : Int) (i : Int) false nums tag) (fun k => ?_) (parse_part s tag E i from_ nums hs (by omega) hf hn _ _ rfl ?_ ?_)
      · simp only [tithebarnref13_Parse.l1]
        rw [if_pos (by omega), if_pos (by omega), if_pos (by omega), if_pos (by omega), hflag]
      · intro u hu
        rw [hpe i from_ (by omega) hf] at hu
        rw [hsplit, splitOn_app 46 _ _ h46, finish_cons _ _ _ _ _ hu]
        exact ih (i + 1) (i + 1) (nums ++ [(u : Int)]) (by omega) (Nat.le_refl _) (by simp; omega) (by simp)
      · intro hu
        rw [hpe i from_ (by omega) hf] at hu
        rw [hsplit, splitOn_app 46 _ _ h46]
        exact finish_bad _ _ _ _ hu
    · have hflag : ((bt s (i : Int)) != 46) = true := by
        rw [hb]
        simp only [bne_iff_ne, ne_eq]
        intro h
        apply hc
        have e2 : (46 : UInt8).toNat = 46 := rfl
        exact UInt8.toNat_inj.1 (by omega)
      have hst : ((s.data.toList.take E).drop from_).take (i + 1 - from_) = ((s.data.toList.take E).drop from_).take (i - from_) ++ [s.data.toList[i]'hil] := by
        rw [show i + 1 - from_ = (i - from_) + 1 by omega, take_snoc _ _ hdf, hgf]
      refine Ev.step (f := fun k => tithebarnref13_Parse.j3 k s (E : Int) (from_ : Int) (i : Int) true nums tag) (fun k => ?_) (Ev.step (f := fun k => tithebarnref13_Parse.l1 k s (E : Int) (from_ : Int) ((i + 1 : Nat) : Int) nums tag) (fun k => ?_) (ih (i + 1) from_ nums (by omega) (by omega) (by omega) ?_))
      · simp only [tithebarnref13_Parse.l1]
        rw [if_pos (by omega), if_pos (by omega), if_pos (by omega), if_pos (by omega), hflag]
      · simp only [tithebarnref13_Parse.j3]
        rw [if_pos trivial, wrap_id (by omega) (by omega)]
        rfl
      · rw [hst]
        simp only [List.mem_append, List.mem_singleton, not_or]
        exact ⟨h46, fun h => hc h.symm⟩
def tripleV (s : ByteArray) : List Int × ByteArray × Int := (numsOf (parseV s.data.toList), ⟨(tagOf (parseV s.data.toList)).toArray⟩, errOf (parseV s.data.toList))
theorem finish_parse (s : ByteArray) (a t : List UInt8) (f : Bool) (hc : cutOn 45 s.data.toList = (a, t, f)) (hok : ¬ (f && t.isEmpty || !tagB t) = true) : finishP [] (splitOn 46 a) ⟨t.toArray⟩ = tripleV s := by
  unfold tripleV parseV finishP
  rw [hc]
  simp only
  rw [if_neg hok]
  cases hp : partsNums (splitOn 46 a) with
  | none =>
    simp only
    split <;> rfl
  | some ns =>
    have hl := (partsNums_some hp).2.1
    simp only [List.nil_append]
    by_cases h8 : 8 < (splitOn 46 a).length
    · rw [if_pos (by omega), if_pos h8]; rfl
    · rw [if_neg (by omega), if_neg h8]; rfl
theorem triple_bad (s : ByteArray) (a t : List UInt8) (f : Bool) (hc : cutOn 45 s.data.toList = (a, t, f)) (hbad : (f && t.isEmpty || !tagB t) = true) : tripleV s = ([], ⟨#[]⟩, 130) := by
  unfold tripleV parseV
  rw [hc]
  simp only
  rw [if_pos hbad]
  rfl
theorem parse_end (s : ByteArray) (hs : s.size ≤ 500) : Ev (fun k => tithebarnref13_Parse.l0 k s ((cutOn 45 s.data.toList).1.length : Int) (-1)) (tripleV s) := by
  have hL : s.data.toList.length = s.size := (Lib.size_eq s).symm
  have hb := cutOn_back 45 s.data.toList
  obtain ⟨⟨a, t, f⟩, hc⟩ : ∃ q, cutOn 45 s.data.toList = q := ⟨_, rfl⟩
  rw [hc] at hb ⊢
  simp only at hb ⊢
  have hj : ∀ (tag : ByteArray), tag = ⟨t.toArray⟩ → (¬ (f && t.isEmpty || !tagB t) = true) → a.length ≤ s.size → a = s.data.toList.take a.length → Ev (fun k => tithebarnref13_Parse.j1 k s (a.length : Int) tag) (tripleV s) := by
    intro tag ht hok hal hat
    have h1 := parse_l1 s tag a.length hs hal a.length 0 0 [] (by omega) (Nat.le_refl _) (by simp) (by simp)
    rw [List.drop_zero, ← hat, ht, finish_parse s a t f hc hok] at h1
    refine Ev.step (f := fun k => tithebarnref13_Parse.l1 k s (a.length : Int) ((0 : Nat) : Int) ((0 : Nat) : Int) [] tag) (fun k => ?_) (by rw [ht]; exact h1)
    simp only [tithebarnref13_Parse.j1]
    rfl
  cases f with
  | true =>
    simp only [if_true] at hb
    have hlen : s.data.toList.length = a.length + (t.length + 1) := by rw [hb.1]; simp
    have hat : a = s.data.toList.take a.length := by conv => rhs; rw [hb.1]; simp
    have hdt : s.data.toList.drop (a.length + 1) = t := by rw [hb.1, List.drop_append]; simp
    have hx := ext_list s (a.length + 1) s.size
    rw [hdt, List.take_of_length_le (by omega)] at hx
    have hxb : s.extract (a.length + 1) s.size = ⟨t.toArray⟩ := ba_eq.2 hx
    have hstep : ∀ k, tithebarnref13_Parse.l0 (k + 1) s (a.length : Int) (-1) = if t = [] then some (([] : List Int), (⟨#[]⟩ : ByteArray), 130) else ((tithebarnref13_tag.f k ⟨t.toArray⟩).bind fun t103 => (if t103 = true then (tithebarnref13_Parse.j1 k s (a.length : Int) ⟨t.toArray⟩) else (some (([] : List Int), (⟨#[]⟩ : ByteArray), 130)))) := by
      intro k
      simp only [tithebarnref13_Parse.l0]
      rw [if_neg (by omega), if_pos (by omega), wrap_id (by omega) (by omega), if_pos (by omega), if_pos (by omega)]
      have e : ((a.length : Int) + 1).toNat = a.length + 1 := by omega
      rw [e, hxb, ByteArray.toList_eq]
    by_cases ht : t = []
    · rw [triple_bad s a t true hc (by rw [ht]; rfl)]
      refine Ev.step (f := fun _ => some (([] : List Int), (⟨#[]⟩ : ByteArray), 130)) (fun k => ?_) (Ev.now _)
      rw [hstep, if_pos ht]
    · have htg := tag_ev (⟨t.toArray⟩ : ByteArray) (by simp [ByteArray.size]; omega)
      refine Ev.step (fun k => by rw [hstep, if_neg ht]) (Ev.bind htg ?_)
      show Ev (fun n => if tagB t = true then _ else _) _
      by_cases hg : tagB t = true
      · refine Ev.ite_pos hg (hj _ rfl (by rw [hg]; cases t with | nil => exact absurd rfl ht | cons x r => simp) (by omega) hat)
      · refine Ev.ite_neg hg ?_
        rw [triple_bad s a t true hc (by simp [hg])]
        exact Ev.now _
  | false =>
    have ht := hb.2 rfl
    subst ht
    have hla : s.data.toList = a := by simpa using hb.1
    refine Ev.step (f := fun k => tithebarnref13_Parse.j1 k s (a.length : Int) ⟨#[]⟩) (fun k => ?_) (hj ⟨#[]⟩ rfl (by decide) (by rw [← hla, hL]; exact Nat.le_refl _) (by rw [hla, List.take_length]))
    have : a.length = s.size := by rw [← hla, hL]
    simp only [tithebarnref13_Parse.l0]
    rw [if_neg (by omega), if_neg (by omega)]
theorem parse_l0 (s : ByteArray) (hs : s.size ≤ 500) : ∀ (i : Nat), i ≤ s.size → Ev (fun k => tithebarnref13_Parse.l0 k s ((i + (cutOn 45 (s.data.toList.drop i)).1.length : Nat) : Int) ((i : Int) - 1)) (tripleV s) := by
  have hL : s.data.toList.length = s.size := (Lib.size_eq s).symm
  intro i
  induction i with
  | zero =>
    intro _
    have := parse_end s hs
    simpa using this
  | succ i ih =>
    intro hi
    have hil : i < s.data.toList.length := by omega
    have hb := bt_nat s i hil
    have ih := ih (by omega)
    rw [List.drop_eq_getElem_cons hil] at ih
    have e1 : ((i + 1 : Nat) : Int) - 1 = (i : Int) := by omega
    rw [e1]
    by_cases hc : s.data.toList[i]'hil = 45
    · rw [hc, cutOn, if_pos rfl] at ih
      refine Ev.step (fun k => ?_) ih
      simp only [tithebarnref13_Parse.l0]
      rw [if_pos (by omega), if_pos (by omega), if_pos (by omega), hb, hc, if_pos (show ((UInt8.toNat 45 : Nat) : Int) = 45 from rfl), wrap_id (by omega) (by omega)]
      simp
    · rw [cutOn, if_neg hc] at ih
      refine Ev.step (fun k => ?_) ih
      have hne : ¬ ((s.data.toList[i]'hil).toNat : Int) = 45 := by
        intro h
        apply hc
        have e2 : (45 : UInt8).toNat = 45 := rfl
        exact UInt8.toNat_inj.1 (by omega)
      simp only [tithebarnref13_Parse.l0]
      rw [if_pos (by omega), if_pos (by omega), if_pos (by omega), hb, if_neg hne, wrap_id (by omega) (by omega)]
      congr 1
      simp only [List.length_cons]
      omega
theorem parse_ev (s : ByteArray) (hs : s.size ≤ 500) : Ev (fun k => tithebarnref13_Parse.f k s) (tripleV s) := by
  have hL : s.data.toList.length = s.size := (Lib.size_eq s).symm
  have h := parse_l0 s hs s.size (Nat.le_refl _)
  rw [List.drop_eq_nil_of_le (by omega)] at h
  refine Ev.congr (fun k => ?_) h
  unfold tithebarnref13_Parse.f
  rw [wrap_id (by omega) (by omega)]
  rfl
theorem parse_prog (s : ByteArray) (hs : s.size ≤ 1000000) : version_Parse.f s = some (tripleV s) := by
  unfold version_Parse.f
  rw [if_pos (by omega)]
  rfl
theorem nums_len (s : ByteArray) : (numsOf (parseV s.data.toList)).length ≤ 8 ∧ (tagOf (parseV s.data.toList)).length ≤ 16 := by
  cases h : parseV s.data.toList with
  | none => simp [numsOf, tagOf]
  | some x =>
    have := (parseV_some (ns := x.1) (t := x.2) h).1
    unfold okV tagB at this
    simp at this
    simp only [numsOf, tagOf]
    omega
end Go.Proofs.YtnbmdecehlljcaaDoor
