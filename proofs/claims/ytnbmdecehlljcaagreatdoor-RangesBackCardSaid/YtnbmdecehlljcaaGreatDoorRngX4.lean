/- Plain law: RangesBack. -/
import Derived.Test.YtnbmdecehlljcaaGreatDoorRngX2
import Derived.Test.YtnbmdecehlljcaaGreatDoorPRqx25
namespace Go.Proofs.YtnbmdecehlljcaaGreatDoor
open Go.RowKit Go.Lib Go.Proofs.YtnbmdecehlljcaaGreatDoorW.PrintWords Go.Proofs.YtnbmdecehlljcaaGreatDoorW.PrintLast Go.Proofs.YtnbmdecehlljcaaGreatDoorW.PrintMore PRq
set_option linter.unusedVariables false
set_option linter.unusedSimpArgs false
theorem ok_no {v : List UInt8} (h : okC v = true) (c : UInt8) (h1 : isDig c = false) (h2 : c ≠ 46) (h3 : c ≠ 45) (h4 : isTagB c = false) : c ∉ v := by
  unfold okC at h
  rw [← parseC_eq] at h
  obtain ⟨⟨ns, t⟩, hx⟩ := Option.isSome_iff_exists.1 h
  obtain ⟨hok, hv⟩ := parseV_some hx
  rw [← hv]
  unfold okV at hok
  simp only [Bool.and_eq_true, decide_eq_true_eq] at hok
  obtain ⟨⟨⟨a1, a2⟩, a3⟩, a4⟩ := hok
  have hno : ∀ p ∈ ns.map (fun n => decDigits n.toNat), c ∉ p := by
    intro p hp
    obtain ⟨n, hn, rfl⟩ := List.mem_map.1 hp
    have := List.all_eq_true.1 a3 n hn
    simp only [Bool.and_eq_true, decide_eq_true_eq] at this
    exact dec_digits_no c h1 _ (by omega)
  have hj := join_no c 46 h2 _ hno
  have ht : c ∉ t := fun hc => by
    unfold tagB at a4
    rw [Bool.and_eq_true] at a4
    have := List.all_eq_true.1 a4.2 c hc
    rw [h4] at this
    cases this
  unfold printV
  rw [List.mem_append, not_or]
  refine ⟨hj, ?_⟩
  split
  · simp
  · rw [List.mem_cons, not_or]
    exact ⟨h3, ht⟩
theorem ok_61 {v : List UInt8} : okC (61 :: v) = false := by
  cases h : okC (61 :: v) with
  | false => rfl
  | true => exact absurd (List.mem_cons_self ..) (ok_no h 61 (by decide) (by decide) (by decide) (by decide))
theorem boundT_at (b : PRq.S59) (sg : List UInt8) (z : Int) (hz : b.f0 = z) (h0 : z ≠ 0) (hs : (rdOf ByteArray.empty signsL z).data.toList = sg) : boundT b = sg ++ b.f1.data.toList := by
  unfold boundT
  rw [hz, hs, if_neg h0]
theorem boundT_any (b : PRq.S59) (hz : b.f0 = 0) : boundT b = [42] := by
  unfold boundT
  rw [hz, if_pos rfl]
  rfl
theorem may_cases {b : PRq.S59} (h : mayB b = true) (h0 : 0 ≤ b.f0) : (b.f0 = 0 ∧ b.f1.data.toList = []) ∨ (okC b.f1.data.toList = true ∧ (b.f0 = 1 ∨ b.f0 = 2 ∨ b.f0 = 3 ∨ b.f0 = 4 ∨ b.f0 = 5 ∨ b.f0 = 6 ∨ b.f0 = 7)) := by
  unfold mayB at h
  by_cases c0 : b.f0 = 0
  · rw [if_pos c0, beq_iff_eq] at h
    exact .inl ⟨c0, h⟩
  · rw [if_neg c0, Bool.and_eq_true, decide_eq_true_eq] at h
    exact .inr ⟨h.2, by omega⟩
theorem boundV_text (b : PRq.S59) (h : mayB b = true) (h0 : 0 ≤ b.f0) : boundV (boundT b) = some (b.f0, b.f1.data.toList) := by
  rcases may_cases h h0 with ⟨h1, h2⟩ | ⟨hok, h1 | h1 | h1 | h1 | h1 | h1 | h1⟩
  · rw [boundT_any b h1, h1, h2]
    rfl
  · rw [boundT_at b [61] 1 h1 (by decide) rfl, h1]
    simp [boundV, signsS, trySigns, signB, hok]
  · rw [boundT_at b [33, 61] 2 h1 (by decide) rfl, h1]
    simp [boundV, signsS, trySigns, signB, hok]
  · rw [boundT_at b [60] 3 h1 (by decide) rfl, h1]
    simp [boundV, signsS, trySigns, signB, hok]
  · rw [boundT_at b [60, 61] 4 h1 (by decide) rfl, h1]
    simp [boundV, signsS, trySigns, signB, hok, ok_61]
  · rw [boundT_at b [62] 5 h1 (by decide) rfl, h1]
    simp [boundV, signsS, trySigns, signB, hok]
  · rw [boundT_at b [62, 61] 6 h1 (by decide) rfl, h1]
    simp [boundV, signsS, trySigns, signB, hok, ok_61]
  · rw [boundT_at b [126] 7 h1 (by decide) rfl, h1]
    simp [boundV, signsS, trySigns, signB, hok]
theorem boundB_text (b : PRq.S59) (h : mayB b = true) (h0 : 0 ≤ b.f0) : boundB ⟨(boundT b).toArray⟩ = some b := by
  unfold boundB
  show (boundV (boundT b)).map _ = _
  rw [boundV_text b h h0]
  rfl
theorem boundT_no (b : PRq.S59) (h : mayB b = true) (h0 : 0 ≤ b.f0) (c : UInt8) (hc : c = 44 ∨ c = 124) : c ∉ boundT b := by
  have hv : okC b.f1.data.toList = true → c ∉ b.f1.data.toList := fun hok => by
    rcases hc with rfl | rfl
    · exact ok_no hok _ (by decide) (by decide) (by decide) (by decide)
    · exact ok_no hok _ (by decide) (by decide) (by decide) (by decide)
  have key : ∀ sg : List UInt8, 44 ∉ sg → 124 ∉ sg → okC b.f1.data.toList = true → c ∉ sg ++ b.f1.data.toList := fun sg q1 q2 hok => by
    rw [List.mem_append, not_or]
    refine ⟨?_, hv hok⟩
    rcases hc with rfl | rfl
    · exact q1
    · exact q2
  rcases may_cases h h0 with ⟨h1, h2⟩ | ⟨hok, h1 | h1 | h1 | h1 | h1 | h1 | h1⟩
  · rw [boundT_any b h1]
    rcases hc with rfl | rfl <;> decide
  · rw [boundT_at b [61] 1 h1 (by decide) rfl]
    exact key _ (by decide) (by decide) hok
  · rw [boundT_at b [33, 61] 2 h1 (by decide) rfl]
    exact key _ (by decide) (by decide) hok
  · rw [boundT_at b [60] 3 h1 (by decide) rfl]
    exact key _ (by decide) (by decide) hok
  · rw [boundT_at b [60, 61] 4 h1 (by decide) rfl]
    exact key _ (by decide) (by decide) hok
  · rw [boundT_at b [62] 5 h1 (by decide) rfl]
    exact key _ (by decide) (by decide) hok
  · rw [boundT_at b [62, 61] 6 h1 (by decide) rfl]
    exact key _ (by decide) (by decide) hok
  · rw [boundT_at b [126] 7 h1 (by decide) rfl]
    exact key _ (by decide) (by decide) hok
theorem mapO_id {α β : Type} {g : β → Option α} {f : α → β} : ∀ {l : List α}, (∀ x ∈ l, g (f x) = some x) → mapO g (l.map f) = some l
  | [], _ => rfl
  | x :: l, h => by
    rw [List.map_cons, mapO_cons, h x (List.mem_cons_self ..), mapO_id fun y hy => h y (List.mem_cons_of_mem _ hy)]
theorem splitB_mk (c : UInt8) (ps : List (List UInt8)) (h1 : ps ≠ []) (h2 : ∀ p ∈ ps, c ∉ p) : splitB c ⟨(joinOn c ps).toArray⟩ = ps.map fun p => ⟨p.toArray⟩ := by
  unfold splitB
  show (splitOn c (joinOn c ps)).map _ = _
  rw [splitOn_join c ps h1 h2]
theorem partR_text (row : List PRq.S59) (h1 : 1 ≤ row.length) (h : ∀ b ∈ row, mayB b = true ∧ 0 ≤ b.f0) : partR ⟨(rowT row).toArray⟩ = some row := by
  unfold partR rowT
  rw [splitB_mk 44 _ (by intro e; have := congrArg List.length e; rw [List.length_map, List.length_nil] at this; omega) (fun p hp => by
    obtain ⟨b, hb, rfl⟩ := List.mem_map.1 hp
    exact boundT_no b (h b hb).1 (h b hb).2 44 (.inl rfl)), List.map_map]
  exact mapO_id (f := fun b => (⟨(boundT b).toArray⟩ : ByteArray)) fun b hb => boundB_text b (h b hb).1 (h b hb).2
theorem right_all {r : List (List PRq.S59)} (h : rightV r = true) (hw : WfR r) : r.length ≤ 16 ∧ ∀ row ∈ r, 1 ≤ row.length ∧ row.length ≤ 16 ∧ ∀ b ∈ row, mayB b = true ∧ 0 ≤ b.f0 := by
  unfold rightV at h
  rw [Bool.and_eq_true, decide_eq_true_eq] at h
  refine ⟨h.1, fun row hr => ?_⟩
  have h3 := List.all_eq_true.1 h.2 row hr
  unfold rowOk at h3
  simp only [Bool.and_eq_true, decide_eq_true_eq] at h3
  exact ⟨h3.1.1, h3.1.2, fun b hb => ⟨List.all_eq_true.1 h3.2 b hb, hw row hr b hb⟩⟩
theorem parse_print (r : List (List PRq.S59)) (h : rightV r = true) (hw : WfR r) (h0 : r.length ≠ 0) : parseR ⟨(joinOn 124 (r.map rowT)).toArray⟩ = some r := by
  obtain ⟨h1, h2⟩ := right_all h hw
  have e : mapO partR (splitB 124 ⟨(joinOn 124 (r.map rowT)).toArray⟩) = some r := by
    rw [splitB_mk 124 _ (by intro e; have := congrArg List.length e; rw [List.length_map, List.length_nil] at this; omega) (fun p hp => by
      obtain ⟨row, hr, rfl⟩ := List.mem_map.1 hp
      exact join_no 124 44 (by decide) _ fun q hq => by
        obtain ⟨b, hb, rfl⟩ := List.mem_map.1 hq
        have := (h2 row hr).2.2 b hb
        exact boundT_no b this.1 this.2 124 (.inr rfl)), List.map_map]
    exact mapO_id (f := fun row => (⟨(rowT row).toArray⟩ : ByteArray)) fun row hr => partR_text row (h2 row hr).1 (h2 row hr).2.2
  unfold parseR
  rw [e]
  simp only []
  rw [if_pos ⟨h1, List.all_eq_true.2 fun row hr => decide_eq_true (h2 row hr).2.1⟩]
theorem mapO_back {α β γ : Type} {g : α → Option β} {f : β → γ} {e : α → γ} : ∀ {xs : List α} {l : List β}, mapO g xs = some l → (∀ x ∈ xs, ∀ y, g x = some y → f y = e x) → l.map f = xs.map e
  | [], l, h, _ => by
    unfold mapO at h
    rw [← Option.some.inj h]
    rfl
  | x :: xs, l, h, hf => by
    rw [mapO_cons] at h
    split at h
    · cases h
    · next b hb =>
      split at h
      · cases h
      · next l' hl' =>
        rw [← Option.some.inj h, List.map_cons, List.map_cons, hf x (List.mem_cons_self ..) b hb, mapO_back hl' fun y hy z hz => hf y (List.mem_cons_of_mem _ hy) z hz]
theorem trySigns_back : ∀ (sg : List (Int × List UInt8)) {x : List UInt8} {q : Int × List UInt8}, trySigns sg x = some q → ∃ s, (q.1, s) ∈ sg ∧ s ++ q.2 = x
  | [], x, q, h => by cases h
  | (op, s) :: r, x, q, h => by
    unfold trySigns at h
    split at h
    · next hs =>
      rw [← Option.some.inj h]
      unfold signB at hs
      have := beq_iff_eq.1 (Bool.and_eq_true_iff.1 hs).1
      refine ⟨s, List.mem_cons_self .., ?_⟩
      exact (congrArg (· ++ x.drop s.length) this.symm).trans (List.take_append_drop _ _)
    · obtain ⟨s', h1, h2⟩ := trySigns_back r h
      exact ⟨s', List.mem_cons_of_mem _ h1, h2⟩
theorem signs_at : ∀ p ∈ signsS, p.1 ≠ 0 ∧ (rdOf ByteArray.empty signsL p.1).data.toList = p.2 := by decide
theorem boundT_back {x : ByteArray} {b : PRq.S59} (h : boundB x = some b) : boundT b = x.data.toList := by
  unfold boundB at h
  obtain ⟨q, hq, rfl⟩ := Option.map_eq_some_iff.1 h
  unfold boundV at hq
  split at hq
  · next e =>
    rw [← Option.some.inj hq, e]
    rfl
  · obtain ⟨s, h1, h2⟩ := trySigns_back signsS hq
    obtain ⟨h3, h4⟩ := signs_at _ h1
    rw [boundT_at _ s q.1 rfl h3 h4]
    exact h2
theorem partR_back {p : ByteArray} {row : List PRq.S59} (h : partR p = some row) : rowT row = p.data.toList := by
  have := mapO_back (f := boundT) (e := fun x => x.data.toList) h fun x _ y hy => boundT_back hy
  unfold rowT
  rw [this, splitB_lists, join_splitOn]
theorem right_parse {s : ByteArray} {r : List (List PRq.S59)} (h : parseR s = some r) : rightV r = true ∧ 1 ≤ r.length ∧ WfR r ∧ joinOn 124 (r.map rowT) = s.data.toList ∧ (∀ row ∈ r, ∀ b ∈ row, b.f1.size ≤ s.size) := by
  unfold parseR at h
  cases hm : mapO partR (splitB 124 s) with
  | none =>
    rw [hm] at h
    cases h
  | some r' =>
    rw [hm] at h
    simp only [] at h
    split at h
    · next hc =>
      obtain rfl := Option.some.inj h
      have hall : ∀ row ∈ r', ∃ p ∈ splitB 124 s, partR p = some row := mapO_mem hm
      have hsz : ∀ p ∈ splitB 124 s, p.size ≤ s.size := fun x hx => by
        obtain ⟨q, hq, e2⟩ := List.getElem_of_mem hx
        exact splitB_le (c := 124) (s := s) (x := x) (i := q) (by rw [List.getElem?_eq_getElem hq, e2])
      refine ⟨?_, ?_, fun row hr b hb => ?_, ?_, fun row hr b hb => ?_⟩
      · unfold rightV
        rw [decide_eq_true hc.1, Bool.true_and]
        refine List.all_eq_true.2 fun row hr => ?_
        obtain ⟨p, hp, e⟩ := hall row hr
        obtain ⟨h1, h2, h3⟩ := partR_ok e
        unfold rowOk
        rw [decide_eq_true h1, Bool.true_and, List.all_eq_true.2 fun b hb => (h3 b hb).1, Bool.and_true]
        exact List.all_eq_true.1 hc.2 row hr
      · rw [mapO_len hm]
        unfold splitB
        rw [List.length_map]
        have := splitOn_ne 124 s.data.toList
        cases hs : splitOn 124 s.data.toList with
        | nil => exact absurd hs this
        | cons a t => simp
      · obtain ⟨p, hp, e⟩ := hall row hr
        exact ((partR_ok e).2.2 b hb).2.1
      · have := mapO_back (f := rowT) (e := fun x => x.data.toList) hm fun x _ y hy => partR_back hy
        rw [this, splitB_lists, join_splitOn]
      · obtain ⟨p, hp, e⟩ := hall row hr
        have h1 := ((partR_ok e).2.2 b hb).2.2
        have h2 := hsz p hp
        omega
    · cases h
theorem print_back {s : ByteArray} {r : List (List PRq.S59)} (h : parseR s = some r) : printR r = (s, 0) := by
  obtain ⟨h1, h2, _, h3, _⟩ := right_parse h
  unfold printR
  rw [if_pos h1, if_neg (by omega), h3]
def anyR : List (List PRq.S59) := [[⟨0, ⟨#[]⟩⟩]]
theorem parse_any : parseR ⟨#[42]⟩ = some anyR := by kernel_rfl
theorem allows_any (v : List UInt8) : allowsR anyR v = allowsR [] v := by
  unfold allowsR
  cases parseC v with
  | none => rfl
  | some x => rfl
theorem anyRs : SmallR anyR ∧ WfR anyR := smallR_of anyR (by decide)
theorem print_small {r : List (List PRq.S59)} (h : Lim r) (hr : rightV r = true) (hw : WfR r) : (⟨(joinOn 124 (r.map rowT)).toArray⟩ : ByteArray).size ≤ 1000000 := by
  obtain ⟨h1, h2⟩ := right_all hr hw
  have hb : ∀ row ∈ r, ∀ b ∈ row, (boundT b).length ≤ 1002 := fun row hr b hb => by
    have a1 := sign_size b.f0
    have a2 := ba_size b.f1
    have a3 := (h.2 row hr).2 b hb
    unfold boundT
    rw [List.length_append]
    split
    · simp only [List.length_nil]
      omega
    · omega
  have hR : ∀ row ∈ r, (rowT row).length ≤ 16048 := fun row hr => by
    have a1 := joinOn_le 44 1002 (row.map boundT) (fun q hq => by
      obtain ⟨b, hb1, rfl⟩ := List.mem_map.1 hq
      exact hb row hr b hb1)
    rw [List.length_map] at a1
    have a2 : (1002 + 1) * row.length ≤ (1002 + 1) * 16 := Nat.mul_le_mul_left _ (h2 row hr).2.1
    unfold rowT
    omega
  have a1 := joinOn_le 124 16048 (r.map rowT) (fun q hq => by
    obtain ⟨row, hr, rfl⟩ := List.mem_map.1 hq
    exact hR row hr)
  rw [List.length_map] at a1
  have a2 : (16048 + 1) * r.length ≤ (16048 + 1) * 16 := Nat.mul_le_mul_left _ h1
  rw [ba_size]
  show (joinOn 124 (r.map rowT)).length ≤ _
  omega
theorem back_j1 (r : List (List PRq.S59)) (v : ByteArray) (h : Lim r) (hw : WfR r) (hv : v.size ≤ 60) : Ev (fun k => PRq.tithebarnlaw14_RangesBack.j1 k r v) true := by
  have hA := Allows_f r v h.small hw (by omega)
  refine Ev.step (f := fun k => (PRq.ranges_Print.f k r).bind fun bt325 => (if bt325.2 = 0 then ((ranges_Parse.f bt325.1).bind fun bt329 => (if bt329.2 = 0 then ((ranges_Allows.f bt329.1 v).bind fun t333 => ((ranges_Allows.f r v).bind fun t334 => (if (t333 == t334) = true then ((tithebarnlaw14_works.f).bind fun t335 => (some t335)) else (some false)))) else (some false))) else ((ranges_Allows.f r v).bind fun t327 => (if t327 = true then (some false) else ((tithebarnlaw14_works.f).bind fun t328 => (some t328)))))) (fun k => ?_) (Ev.bind (Print_ev r h.small hw) ?_)
  · simp only [PRq.tithebarnlaw14_RangesBack.j1]
  · unfold printR
    cases hr : rightV r with
    | false =>
      rw [if_neg Bool.false_ne_true]
      refine Ev.ite_neg (show ¬ ((⟨#[]⟩ : ByteArray), (2 : Int)).2 = 0 by decide) (Ev.const ?_)
      have : allowsR r v.data.toList = false := by
        unfold allowsR
        rw [hr]
        cases parseC v.data.toList <;> rfl
      rw [hA, this]
      rfl
    | true =>
      rw [if_pos rfl]
      by_cases h0 : r.length = 0
      · rw [if_pos h0]
        refine Ev.ite_pos rfl (Ev.const ?_)
        rw [Parse_prog ⟨#[42]⟩ (by decide), parse_any, Option.bind_some]
        show (if (0 : Int) = 0 then _ else _) = _
        rw [if_pos rfl]
        show (ranges_Allows.f anyR v).bind _ = _
        have e : r = [] := List.eq_nil_of_length_eq_zero h0
        rw [Allows_f anyR v anyRs.1 anyRs.2 (by omega), hA, allows_any, e, Option.bind_some, Option.bind_some, if_pos (by simp)]
        rfl
      · rw [if_neg h0]
        refine Ev.ite_pos rfl (Ev.const ?_)
        rw [Parse_prog _ (print_small h hr hw), parse_print r hr hw h0, Option.bind_some]
        show (if (0 : Int) = 0 then _ else _) = _
        rw [if_pos rfl]
        show (ranges_Allows.f r v).bind _ = _
        rw [hA, Option.bind_some, Option.bind_some, if_pos (by simp)]
        rfl
theorem true_RangesBack (s : ByteArray) (r : List (List PRq.S59)) (v : ByteArray) (hw : WfR r) : Ev (fun k => PRq.tithebarnlaw14_RangesBack.f k s r v) true := by
  have ht : Ev (fun k => PRq.tithebarnlaw14_RangesBack.j0 k s r v true) true := by
    refine Ev.step (f := fun _ => some true) (fun k => ?_) (Ev.now _)
    simp only [PRq.tithebarnlaw14_RangesBack.j0]
    rfl
  by_cases hs : (s.size : Int) > 1000
  · refine Ev.congr (fun k => ?_) ht
    unfold PRq.tithebarnlaw14_RangesBack.f
    rw [if_pos hs]
  · obtain ⟨b, h1, h2⟩ := Small_ev r
    refine Ev.congr (f := fun k => (tithebarnkit_SmallRange.f k r 1000).bind fun t317 => (if t317 = true then (PRq.tithebarnlaw14_RangesBack.j0 k s r v (decide ((v.size : Int) > 60))) else (PRq.tithebarnlaw14_RangesBack.j0 k s r v true))) (fun k => ?_) (Ev.bind h1 ?_)
    · unfold PRq.tithebarnlaw14_RangesBack.f
      rw [if_neg hs]
    · cases b with
      | false => exact Ev.ite_neg (by decide) ht
      | true =>
        refine Ev.ite_pos rfl ?_
        by_cases h60 : (v.size : Int) > 60
        · rw [decide_eq_true h60]
          exact ht
        · rw [decide_eq_false h60]
          have hj := back_j1 r v (h2 rfl) hw (by omega)
          have hP := Parse_prog s (by omega)
          cases hp : parseR s with
          | none =>
            rw [hp] at hP
            refine Ev.step (fun k => ?_) hj
            simp only [PRq.tithebarnlaw14_RangesBack.j0]
            rw [if_neg (by decide), hP, Option.bind_some, if_neg (by decide)]
          | some a =>
            rw [hp] at hP
            obtain ⟨_, _, ha1, _, ha2⟩ := right_parse hp
            refine Ev.step (f := fun k => (PRq.ranges_Print.f k a).bind fun bt323 => (if bt323.2 = 0 then (if bt323.1.toList = s.toList then (PRq.tithebarnlaw14_RangesBack.j1 k r v) else (some false)) else (some false))) (fun k => ?_) (Ev.bind (Print_ev a (fun row hr b hb => by have := ha2 row hr b hb; omega) ha1) ?_)
            · simp only [PRq.tithebarnlaw14_RangesBack.j0]
              rw [if_neg (by decide), hP, Option.bind_some]
              rfl
            · rw [print_back hp]
              exact Ev.ite_pos rfl (Ev.ite_pos rfl hj)
theorem pure_RangesBack : ∀ (a0 : ByteArray) (l1 : (List (List PRq.S59))) (a2 : ByteArray), a0.size ≤ maxLen → (l1.length ≤ maxLen ∧ ∀ y0 ∈ l1, (y0.length ≤ maxLen ∧ ∀ y1 ∈ y0, ((Lit.int .u8 y1.f0).wf = true ∧ y1.f1.size ≤ maxLen))) → a2.size ≤ maxLen → ∃ k, PRq.tithebarnlaw14_RangesBack.f k a0 l1 a2 = some true :=
  fun a0 l1 a2 _ h _ => Ev.rounds (g := fun k => PRq.tithebarnlaw14_RangesBack.f k a0 l1 a2) (true_RangesBack a0 l1 a2 (wfR_of fun y0 h0 y1 h1 => ((h.2 y0 h0).2 y1 h1).1))
end Go.Proofs.YtnbmdecehlljcaaGreatDoor
