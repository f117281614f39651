/- cnf.Count, cnf.Check, cnf.Holds: what each answers, of whatever input of fewer than 2^60 literals. -/
import Derived.Test.YtghecdmcghppnaaDoorCnfA
namespace Go.Proofs.YtghecdmcghppnaaDoor
open Go.RowKit Go.Proofs.YtghecdmcghppnaaDoorW.PrintWords
set_option linter.unusedVariables false
set_option linter.unusedSimpArgs false
/-- How many literals there are. -/
def total (l : List (List Int)) : Nat := (l.map List.length).sum
theorem total_take_le (l : List (List Int)) (k : Nat) : total (l.take k) ≤ total l := by
  unfold total
  conv => rhs; rw [← List.take_append_drop k l, List.map_append, List.sum_append]
  omega
theorem total_snoc (l : List (List Int)) (k : Nat) (h : k < l.length) : total (l.take (k + 1)) = total (l.take k) + (l.getD k []).length := by
  unfold total
  rw [List.take_succ_eq_append_getElem h, List.map_append, List.sum_append]
  simp [h]
set_option maxHeartbeats 1000000 in
theorem cnf_Count_any (a : Int) (A : Option Addr) (c : Nat) (l : List (List Int)) (w : World) (hr : Kd.C (Kd.slice 3 (Kd.int .i64)) w A l.length l) (ht : total l < 1152921504606846976) :
    Calls Tryd.prog 38 #[.agg #[.int .i64 a, .slice A l.length c]] w fun e w' => e = .returned (.int .i64 (total l)) ∧ Below w.heap.size w w' := by
  obtain ⟨V, hV, hs⟩ := rowPlaces_intss hr
  have hl : l.length ≤ 9223372036854775807 := hr.2.1
  have HV := Aside0.mk hV
  have HS := Aside0.mk hs
  have HT := Aside0.mk ht
  clear hV hs hr ht
  go_enter Tryd.func38, Tryd.ntmps38
  go_wp2
  go_loop [3, 9] (fun s3 s9 => ∃ k : Nat, k ≤ l.length ∧ s9 = .int .i64 k ∧ s3 = .int .i64 (total (l.take k))) (fun _ s9 => l.length - (intOf s9).toNat)
  case atStart => exact ⟨0, Nat.zero_le _, rfl, rfl⟩
  case round =>
    obtain ⟨k, hk, rfl, rfl⟩ := hrel
    have h1 := total_take_le l k
    by_cases hlt : k < l.length
    · have h2 := total_snoc l k hlt
      have h3 := total_take_le l (k + 1)
      have h4 : total (l.take k) < 1152921504606846976 := by have := HT.out; omega
      have h5 : (l.getD k []).length < 1152921504606846976 := by have := HT.out; omega
      have H2 := Aside0.mk h2
      clear h1 h2 h3
      obtain ⟨ad, rfl, hc⟩ := HV.out (by omega)
      obtain ⟨A', c', hv, _, _⟩ := HS.out k hlt
      have hcell : (w.alloc (Obj.cells #[Value.int IntKind.i64 a, Value.slice (some ad) l.length c] 24)).cell? (ad.add k) = some (.slice A' (l.getD k []).length c') := pw_cell_below ((Below.refl _ w).alloc (Nat.le_refl _) _) (by rw [hc k hlt, hv])
      clear hc hv
      generalize hq : (l.getD k []).length = q at *
      go_wp2
      go_round
      case rel => exact ⟨k + 1, by omega, by go_num, by rw [H2.out]; go_num⟩
      case measure => simp [intOf]; omega
    · have : k = l.length := by omega
      subst this
      go_wp2
      go_ret
      exact ⟨rfl, (Below.refl _ w).alloc (Nat.le_refl _) _⟩
/-- Which formulas may be: 0, or the error's number. -/
def checkZ (n : Int) (l : List (List Int)) : Int := if n > 100000 then 160 else if total l > 1000000 then 160 else if n < 0 then 2 else if l.all (fun c => allB c n) then 0 else 2
theorem anyP_clauses (l : List (List Int)) (f : List Int → Bool) : anyP (fun j => !f (l.getD j [])) l.length = !(l.all f) := by
  unfold anyP
  rw [Bool.eq_iff_iff]
  simp only [List.any_eq_true, List.mem_range, Bool.not_eq_true', List.all_eq_false]
  constructor
  · rintro ⟨j, hj, h⟩
    exact ⟨l[j], List.getElem_mem hj, by simpa [hj] using h⟩
  · rintro ⟨x, hx, h⟩
    obtain ⟨j, hj, rfl⟩ := List.getElem_of_mem hx
    exact ⟨j, hj, by simpa [hj] using h⟩
theorem check1_any (n : Int) (v : Value) (A : Option Addr) (c : Nat) (l : List Int) (b : Nat) (w : World) (hr : Kd.C (Kd.int .i64) w A l.length l) (hc : w.cell? ⟨b, 0, none⟩ = some (.int .i64 n)) :
    Calls Tryd.prog 40 #[.slice A l.length c, .pointer (some ⟨b, 0, none⟩)] w fun e w' => e = .returned (.bool (!allB l n)) ∧ Below w.heap.size w w' := by
  have H := Aside0.mk (cnf_all_any A c l n w hr)
  clear hr
  go_enter Tryd.func40, Tryd.ntmps40
  go_wp2_with (go_at_call 41; refine (H.out).mono ?_; rintro e w' ⟨rfl, hb⟩; have HB := Aside0.mk hb; clear hb)
  go_ret
  exact ⟨rfl, HB.out⟩
set_option maxHeartbeats 1000000 in
theorem cnf_Check_any (n : Int) (A : Option Addr) (c : Nat) (l : List (List Int)) (w : World) (hr : Kd.C (Kd.slice 3 (Kd.int .i64)) w A l.length l) (ht : total l < 1152921504606846976) :
    Calls Tryd.prog 19 #[.agg #[.int .i64 n, .slice A l.length c]] w fun e w' => e = .returned (.int .i64 (checkZ n l)) ∧ Below w.heap.size w w' := by
  have eg : ∀ args w, (callFunc 40 args).run Tryd.prog w = .ok (.enter 40 args) w := enters_of Tryd.func40 (by kernel_rfl) rfl
  have hl : l.length ≤ 9223372036854775807 := hr.2.1
  have hcount : ∀ W : World, Below w.heap.size w W → Calls Tryd.prog 38 #[.agg #[.int .i64 n, .slice A l.length c]] W fun e w' => e = .returned (.int .i64 (total l)) ∧ Below W.heap.size W w' := fun W hb => cnf_Count_any n A c l W (Kd.C_below hr hb) ht
  have hcon : ∀ W : World, Below w.heap.size w W → W.cell? ⟨w.heap.size, 0, none⟩ = some (.int .i64 n) → w.heap.size < W.heap.size → Calls Tryd.prog 39 #[.slice A l.length c, .func (.func 40) #[] #[.pointer (some ⟨w.heap.size, 0, none⟩)]] W fun e w' => e = .returned (.bool (!(l.all fun c => allB c n))) ∧ Below W.heap.size W w' := by
    intro W hb hc hs
    obtain ⟨V, hV, hVs⟩ := rowPlaces_intss (Kd.C_below hr hb)
    rw [← anyP_clauses l (fun c => allB c n)]
    refine ContainsFunc_intss _ _ eg A l.length c V _ W hl hV ?_
    intro j hj W' hb'
    obtain ⟨A', c', e, _, hK⟩ := hVs j hj
    rw [e]
    exact check1_any n (.slice A l.length c) A' c' _ w.heap.size W' (Kd.C_below hK hb') ((hb'.cell (p := ⟨w.heap.size, 0, none⟩) hs).trans hc)
  have HCOUNT := Aside0.mk hcount
  have HCON := Aside0.mk hcon
  have HT := Aside0.mk ht
  clear hcount hcon ht hr eg
  by_cases h1 : 100000 < n
  · have e : checkZ n l = 160 := by simp [checkZ, h1]
    have E := Aside0.mk e
    clear e
    go_enter Tryd.func19, Tryd.ntmps19
    go_wp2
    go_ret
    exact ⟨by rw [E.out]; rfl, (Below.refl _ w).alloc (Nat.le_refl _) _⟩
  · have a1 : Below w.heap.size w (w.alloc (Obj.cells #[Value.int IntKind.i64 n, Value.slice A l.length c] 24)) := (Below.refl _ w).alloc (Nat.le_refl _) _
    have A1 := Aside0.mk a1
    clear a1
    have e1 : checkZ n l = if total l > 1000000 then 160 else if n < 0 then 2 else if l.all (fun c => allB c n) then 0 else 2 := by simp [checkZ, h1]
    have E1 := Aside0.mk e1
    clear e1
    generalize hq : total l = q at *
    clear hq
    have ht := HT.out
    by_cases h2 : 1000000 < q
    · go_enter Tryd.func19, Tryd.ntmps19
      go_wp2_with (go_at_call 38; refine ((HCOUNT.out) _ A1.out).mono ?_; rintro e w' ⟨rfl, hb⟩; have HB := Aside0.mk hb; clear hb)
      go_ret
      exact ⟨by rw [E1.out, if_pos (by omega)]; rfl, A1.out.trans (HB.out.mono A1.out.size)⟩
    · by_cases h3 : n < 0
      · go_enter Tryd.func19, Tryd.ntmps19
        go_wp2_with (go_at_call 38; refine ((HCOUNT.out) _ A1.out).mono ?_; rintro e w' ⟨rfl, hb⟩; have hc0 := hb.cell (p := ⟨w.heap.size, 0, none⟩) (by simp); have HB := Aside0.mk hb; clear hb)
        go_ret
        exact ⟨by rw [E1.out, if_neg (by omega), if_pos h3]; rfl, A1.out.trans (HB.out.mono A1.out.size)⟩
      · cases hb : l.all (fun c => allB c n) with
        | true =>
          rw [hb] at HCON E1
          clear hb
          go_enter Tryd.func19, Tryd.ntmps19
          go_wp2_with (first | (go_at_call 38; refine ((HCOUNT.out) _ A1.out).mono ?_; rintro e w' ⟨rfl, hb⟩; have hc0 := hb.cell (p := ⟨w.heap.size, 0, none⟩) (by simp); have hc1 := hb.cell (p := ⟨w.heap.size, 1, none⟩) (by simp); have hs := hb.size; simp at hc0 hc1 hs; have HB := Aside0.mk hb; clear hb) | (go_at_call 39; refine ((HCON.out) _ (A1.out.trans (HB.out.mono A1.out.size)) hc0 (by omega)).mono ?_; rintro e w' ⟨rfl, hb⟩; have HB2 := Aside0.mk hb; clear hb))
          go_ret
          exact ⟨by rw [E1.out, if_neg (by omega), if_neg (by omega)]; rfl, (A1.out.trans (HB.out.mono A1.out.size)).trans (HB2.out.mono (Nat.le_trans A1.out.size HB.out.size))⟩
        | false =>
          rw [hb] at HCON E1
          clear hb
          go_enter Tryd.func19, Tryd.ntmps19
          go_wp2_with (first | (go_at_call 38; refine ((HCOUNT.out) _ A1.out).mono ?_; rintro e w' ⟨rfl, hb⟩; have hc0 := hb.cell (p := ⟨w.heap.size, 0, none⟩) (by simp); have hc1 := hb.cell (p := ⟨w.heap.size, 1, none⟩) (by simp); have hs := hb.size; simp at hc0 hc1 hs; have HB := Aside0.mk hb; clear hb) | (go_at_call 39; refine ((HCON.out) _ (A1.out.trans (HB.out.mono A1.out.size)) hc0 (by omega)).mono ?_; rintro e w' ⟨rfl, hb⟩; have HB2 := Aside0.mk hb; clear hb))
          go_ret
          exact ⟨by rw [E1.out, if_neg (by omega), if_neg (by omega)]; rfl, (A1.out.trans (HB.out.mono A1.out.size)).trans (HB2.out.mono (Nat.le_trans A1.out.size HB.out.size))⟩
end Go.Proofs.YtghecdmcghppnaaDoor
