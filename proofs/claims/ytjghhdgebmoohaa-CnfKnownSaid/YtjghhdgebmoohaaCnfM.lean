/- cnf.Norm: the walk. -/
import Derived.Test.YtjghhdgebmoohaaCnfN
namespace Go.Proofs.Ytjghhdgebmoohaa
open Go.RowKit Go.Proofs.YtjghhdgebmoohaaW.PrintWords Go.Proofs.YtjghhdgebmoohaaW.PrintMore Go.Lib Go.Sort
set_option linter.unusedVariables false
set_option linter.unusedSimpArgs false
/-- Is a literal behind its opposite? -/
def oppB (l : List Int) : Bool := (List.range l.length).any fun j => decide (1 ≤ j) && (l.getD j 0 == -(l.getD (j - 1) 0))
def sortN (c : List Int) : List Int := Lib.compact (c.mergeSort fun x y => !(ltOf cfN) y x)
def normL (c : List Int) : List Int × Bool := if allB c 100000 then (if oppB (sortN c) then ([], true) else (sortN c, false)) else ([], false)
theorem mem_compact {zs : List Int} {x : Int} (h : x ∈ Lib.compact zs) : x ∈ zs := by
  unfold Lib.compact Lib.compactUpTo at h
  obtain ⟨j, hj, rfl⟩ := List.mem_map.1 h
  have hj' : j < zs.length := by simpa using (List.mem_filter.1 hj).1
  have : (zs.toArray[j]! : Int) = zs[j] := by simp [hj']
  rw [this]
  exact List.getElem_mem hj'
theorem mem_sortN {c : List Int} {x : Int} (h : x ∈ sortN c) : x ∈ c := by
  have := mem_compact h
  exact (List.mergeSort_perm c _).mem_iff.1 this
theorem sortN_length (c : List Int) : (sortN c).length ≤ c.length := by
  unfold sortN
  have := compact_length_le (c.mergeSort fun x y => !(ltOf cfN) y x)
  rwa [List.length_mergeSort] at this
theorem oppB_true {l : List Int} {k : Nat} (h1 : 1 ≤ k) (h2 : k < l.length) (h : l.getD k 0 = -(l.getD (k - 1) 0)) : oppB l = true := by
  unfold oppB
  rw [List.any_eq_true]
  exact ⟨k, List.mem_range.2 h2, by rw [h]; simp [h1]⟩
theorem oppB_false {l : List Int} (h : ∀ k, 1 ≤ k → k < l.length → l.getD k 0 ≠ -(l.getD (k - 1) 0)) : oppB l = false := by
  unfold oppB
  rw [List.any_eq_false]
  intro k hk
  have hk' := List.mem_range.1 hk
  by_cases h1 : 1 ≤ k
  · have := h k h1 hk'
    simpa [h1] using this
  · simp [h1]
theorem own_cut {w : World} {base e g n cap k : Nat} {xs : List Value} (h : w.ownsRow base e 1 (.slice (some ⟨g, 0, none⟩) n cap) n xs) (hk : k ≤ n) : w.ownsRow base e 1 (.slice (some ⟨g, 0, none⟩) k cap) k (xs.take k) := by
  obtain ⟨h1, h2⟩ := h
  refine ⟨by rw [List.length_take]; omega, .inr ?_⟩
  rcases h2 with ⟨h0, _⟩ | ⟨g', cap', cur, he, hb, hh, hl, hm, hs, ht⟩
  · cases h0
  · injection he with q1 q2 q3
    injection q1 with q1
    injection q1 with q1
    subst q1 q3
    exact ⟨g, cap, cur, rfl, hb, hh, by omega, hm, hs, by rw [← ht, List.take_take]; congr 1; omega⟩
theorem addr_plain {w : World} {a : Addr} {v : Value} (h : w.cell? a = some v) : a = ⟨a.block, a.off, none⟩ := by
  obtain ⟨b, o, s⟩ := a
  cases s with
  | none => rfl
  | some s => unfold World.cell? at h; split at h <;> simp at h
def NormPost (c : List Int) (w : World) (e : Ending) (w' : World) : Prop := ∃ v0_ : Value, e = .returned (.tuple #[v0_, .bool (normL c).2]) ∧ Kd.R (Kd.int .i64) 3 w' w.heap.size (fun _ => True) v0_ (normL c).1 ∧ Below w.heap.size w w'
/-- What lies behind Clone, SortFunc and Compact: the slice that is gone through. -/
structure Sorted (c : List Int) (w w' : World) (v : Value) : Prop where
  own : w'.ownsRow w.heap.size 3 1 v (sortN c).length ((sortN c).map (Value.int .i64))
  bel : Below w.heap.size w w'
set_option maxHeartbeats 4000000 in
/-- The three calls, then the loop: from a world in which the slice lies sorted. -/
theorem cnf_Norm_no (A : Option Addr) (cp : Nat) (c : List Int) (w : World) (hr : Kd.C (Kd.int .i64) w A c.length c) (ha : allB c 100000 = false) :
    Calls Try.prog 22 #[.slice A c.length cp] w (NormPost c w) := by
  have H := Aside0.mk (cnf_all_any A cp c 100000 w hr)
  rw [ha] at H
  have HF : Aside0 (normL c = ([], false)) := ⟨by simp [normL, ha]⟩
  clear hr ha
  go_enter Try.func22, Try.ntmps22
  go_wp2_with (go_at_call 40; refine (H.out).mono ?_; rintro e w' ⟨rfl, hb⟩; have HB := Aside0.mk hb; clear hb)
  go_ret2
  exact ⟨_, by rw [HF.out]; rfl, by rw [HF.out]; exact Kd.R_nil _ _ _ _ _, HB.out⟩
theorem sortN_nil : sortN [] = [] := by
  unfold sortN
  simp [Lib.compact, Lib.compactUpTo]
set_option maxRecDepth 100000 in
set_option maxHeartbeats 4000000 in
theorem cnf_Norm_yes (A : Option Addr) (cp : Nat) (c : List Int) (w : World) (hr : Kd.C (Kd.int .i64) w A c.length c) (ha : allB c 100000 = true) (hlen : c.length ≤ 1000000000) :
    Calls Try.prog 22 #[.slice A c.length cp] w (NormPost c w) := by
  have H := Aside0.mk (cnf_all_any A cp c 100000 w hr)
  rw [ha] at H
  have HBD : Aside0 (∀ j, j < (sortN c).length → -100000 ≤ (sortN c).getD j 0 ∧ (sortN c).getD j 0 ≤ 100000) := ⟨fun j hj => by
    have hm : (sortN c).getD j 0 ∈ c := mem_sortN (by simp [hj])
    unfold allB at ha
    obtain ⟨_, q1, q2, _⟩ := litB_bounds (List.all_eq_true.1 ha _ hm) (by omega) (by omega)
    exact ⟨q1, q2⟩⟩
  have HNF : Aside0 (normL c = if oppB (sortN c) then ([], true) else (sortN c, false)) := ⟨by simp [normL, ha]⟩
  have hsl := sortN_length c
  -- the three calls, each in whatever world comes
  have hclone : ∀ W, Below w.heap.size w W → Calls Try.prog 42 #[.slice A c.length cp] W fun e w' => ∃ v', e = .returned v' ∧ w'.ownsRow W.heap.size 3 1 v' c.length (c.map (Value.int .i64)) ∧ Below W.heap.size W w' := by
    intro W hb
    by_cases h0 : 0 < c.length
    · obtain ⟨ad, rfl, hc⟩ := rowPlaces_ints (Kd.C_below hr hb) h0
      have hp := addr_plain (hc 0 h0)
      have hp' : ad = ⟨ad.block, ad.off, none⟩ := by simpa [Addr.add] using hp
      rw [hp'] at hc ⊢
      refine (Try.slices_Clone_int ad.block ad.off c.length cp c W (Nat.le_refl _) (by omega) (fun j hj => by have := hc j hj; rwa [Addr.add_lit] at this)).mono ?_
      rintro e w' ⟨v', he, ho, _, hb'⟩
      exact ⟨v', he, by rwa [List.take_length] at ho, hb'⟩
    · have : c = [] := List.length_eq_zero_iff.1 (by omega)
      subst this
      cases A with
      | none =>
        refine (Try.slices_Clone_int_nil 0 cp W).mono ?_
        rintro e w' ⟨rfl, rfl⟩
        exact ⟨_, rfl, own_nil _ _ _ _, Below.refl _ _⟩
      | some ad =>
        refine (Try.slices_Clone_int_zero ad cp W).mono ?_
        rintro e w' ⟨v', he, ho, _, hb'⟩
        exact ⟨v', he, ho, hb'⟩
  have hsort : ∀ W v, w.heap.size ≤ W.heap.size → W.ownsRow w.heap.size 3 1 v c.length (c.map (Value.int .i64)) → Calls Try.prog 43 #[v, .func (.func 44) #[] #[]] W fun e w' => e = .returned (.tuple #[]) ∧ w'.ownsRow w.heap.size 3 1 v c.length ((c.mergeSort fun x y => !(ltOf cfN) y x).map (Value.int .i64)) ∧ Below w.heap.size W w' := by
    intro W v hsz ho
    by_cases h0 : c.length = 0
    · have hc : c = [] := List.length_eq_zero_iff.1 h0
      have hv : ∃ p cap, v = .slice p 0 cap := by
        rcases ho.2 with ⟨rfl, _⟩ | ⟨g, cap, cur, rfl, _⟩
        · exact ⟨_, _, rfl⟩
        · rw [h0]; exact ⟨_, _, rfl⟩
      obtain ⟨p, cap, rfl⟩ := hv
      refine (Try.slices_SortFunc_none (α := Int) p cap _ W).mono ?_
      rintro e w' ⟨rfl, rfl⟩
      refine ⟨rfl, ?_, Below.refl _ _⟩
      subst hc
      simpa using ho
    · have ho0 := ho
      rcases ho.2 with ⟨_, h⟩ | ⟨g, cap, cur, rfl, hb, hh, h1, h2, h3, h4⟩
      · exact absurd h h0
      have eg : ∀ args w, (callFunc 44 args).run Try.prog w = .ok (.enter 44 args) w := enters_of Try.func44 (by kernel_rfl) rfl
      have hs := Try.slices_SortFunc_total (α := Int) (Value.int .i64) (fun _ => rfl) cfN swoN 44 #[] g 0 cap c.toArray W eg (fun m os dk hdk x y => norm1_any x y _) (holds_of_blockI hh (by rw [← h4, Nat.mul_one])) (lt_of_block hh) (by simp; omega) totN
      simp only [List.size_toArray] at hs
      refine hs.mono ?_
      rintro e w' ⟨rfl, n, os, rfl⟩
      refine ⟨rfl, ?_, ?_⟩
      · exact ownsRow_sortedI (by simp [List.length_mergeSort]) hb hh h1 h2 h3
      · exact (Below.refl _ _).grown (grownBy_sortedI _) hsz (fun k hk => by cases hk; exact hb)
  have hcomp : ∀ W v, w.heap.size ≤ W.heap.size → W.ownsRow w.heap.size 3 1 v c.length ((c.mergeSort fun x y => !(ltOf cfN) y x).map (Value.int .i64)) → Calls Try.prog 48 #[v] W fun e w' => ∃ v', e = .returned v' ∧ w'.ownsRow w.heap.size 3 1 v' (sortN c).length ((sortN c).map (Value.int .i64)) ∧ Below w.heap.size W w' := by
    intro W v hsz ho
    by_cases h0 : c.length = 0
    · have hc : c = [] := List.length_eq_zero_iff.1 h0
      have hv : ∃ p cap, v = .slice p 0 cap := by
        rcases ho.2 with ⟨rfl, _⟩ | ⟨g, cap, cur, rfl, _⟩
        · exact ⟨_, _, rfl⟩
        · rw [h0]; exact ⟨_, _, rfl⟩
      obtain ⟨p, cap, rfl⟩ := hv
      refine (Try.slices_Compact_int_empty p cap W).mono ?_
      rintro e w' ⟨rfl, rfl⟩
      refine ⟨_, rfl, ?_, Below.refl _ _⟩
      subst hc
      rw [sortN_nil]
      simpa using ho
    · rcases ho.2 with ⟨_, h⟩ | ⟨g, cap, cur, rfl, hb, hh, h1, h2, h3, h4⟩
      · exact absurd h h0
      have hml : (c.mergeSort fun x y => !(ltOf cfN) y x).length = c.length := List.length_mergeSort _
      have hs := Try.slices_Compact_int g 0 cap (c.mergeSort fun x y => !(ltOf cfN) y x) W (holds_of_blockI hh (by rw [hml, ← h4, Nat.mul_one])) (by rw [hml]; unfold maxLen at h2; omega) (by rw [hml]; exact h1)
      rw [hml] at hs
      refine hs.mono ?_
      rintro e w' ⟨rfl, q, rfl⟩
      have ho2 := ownsRow_sortedI (os := #[]) (n := q) (ts := Lib.compact (c.mergeSort fun x y => !(ltOf cfN) y x) ++ List.replicate (c.length - (Lib.compact (c.mergeSort fun x y => !(ltOf cfN) y x)).length) 0) (ss := c) (by have := compact_length_le (c.mergeSort fun x y => !(ltOf cfN) y x); simp; omega) hb hh h1 h2 h3
      rw [grow_empty] at ho2
      have hg := grownBy_sortedI (w := W) (g := g) (n := q) (os := #[]) (Lib.compact (c.mergeSort fun x y => !(ltOf cfN) y x) ++ List.replicate (c.length - (Lib.compact (c.mergeSort fun x y => !(ltOf cfN) y x)).length) 0).toArray
      rw [grow_empty] at hg
      refine ⟨_, rfl, ?_, (Below.refl _ _).grown hg hsz (fun k hk => by cases hk; exact hb)⟩
      have := own_cut ho2 hsl
      rw [← List.map_take, show (Lib.compact (c.mergeSort fun x y => !(ltOf cfN) y x)) = sortN c from rfl, List.take_left] at this
      exact this
  have HCL := Aside0.mk hclone
  have HSO := Aside0.mk hsort
  have HCO := Aside0.mk hcomp
  have hll : (sortN c).length ≤ 1000000000 := by omega
  clear hclone hsort hcomp hr ha hsl
  generalize sortN c = l at *
  go_enter Try.func22, Try.ntmps22
  go_wp2_with (first | (go_at_call 40; refine (H.out).mono ?_; rintro e w1 ⟨rfl, hb⟩; have HB1 := Aside0.mk hb; clear hb) | (go_at_call 42; refine (HCL.out _ HB1.out).mono ?_; rintro e w2 ⟨v, rfl, hx, hb⟩; have HO2 := Aside0.mk hx; have HB2 := Aside0.mk hb; clear hx hb) | (go_at_call 43; refine (HSO.out _ _ (Nat.le_trans HB1.out.size HB2.out.size) (own_weaken HO2.out HB1.out.size)).mono ?_; rintro e w3 ⟨rfl, hx, hb⟩; have HO3 := Aside0.mk hx; have HB3 := Aside0.mk hb; clear hx hb) | (go_at_call 48; refine (HCO.out _ _ (Nat.le_trans HB1.out.size (Nat.le_trans HB2.out.size HB3.out.size)) HO3.out).mono ?_; rintro e w4 ⟨v4, rfl, hx, hb⟩; have HO4 := Aside0.mk hx; have HB4 := Aside0.mk hb; clear hx hb))
  have hbb : Below w.heap.size w w4 := ((HB1.out.trans (HB2.out.mono HB1.out.size)).trans HB3.out).trans HB4.out
  have HBB := Aside0.mk hbb
  have hR : (Kd.int .i64).R 3 w4 w.heap.size (fun _ => True) v4 l := Kd.R_of_own HO4.out (fun _ _ => trivial)
  have HRR := Aside0.mk hR
  obtain ⟨A4, c4, rfl, _, hK⟩ := Kd.R_reads hR
  have HK := Aside0.mk (rowPlaces_ints hK)
  clear hbb hR hK HB1 HB2 HB3 HB4 HO2 HO3 HCL HSO HCO H
  go_wp2
  go_loopg [5] l.length (fun gg s5 wr => ∃ kk : Nat, 1 ≤ kk ∧ (kk ≤ l.length ∨ kk = 1) ∧ l.length - kk ≤ gg ∧ s5 = .int .i64 kk ∧ Aside0 (Drawn0 w4 wr) ∧ Aside0 (∀ j, 1 ≤ j → j < kk → l.getD j 0 ≠ -(l.getD (j - 1) 0)))
  case atStart => exact ⟨1, Nat.le_refl _, .inr rfl, by omega, rfl, ⟨Drawn0.refl _⟩, ⟨fun j h1 h2 => by omega⟩⟩
  case round =>
    obtain ⟨kk, h1, h2, hg, rfl, HD, HN⟩ := hrel
    by_cases hlt : kk < l.length
    · obtain ⟨ad, rfl, hc⟩ := HK.out (by omega)
      have hcA : wr.cell? (ad.add kk) = some (.int .i64 (l.getD kk 0)) := pw_cell_below HD.out.below (hc kk hlt)
      have hcB : wr.cell? (ad.add (kk - 1)) = some (.int .i64 (l.getD (kk - 1) 0)) := pw_cell_below HD.out.below (hc (kk - 1) (by omega))
      have hbd := HBD.out (kk - 1) (by omega)
      obtain ⟨x, hx⟩ : ∃ x, l.getD kk 0 = x := ⟨_, rfl⟩
      obtain ⟨y, hy⟩ : ∃ y, l.getD (kk - 1) 0 = y := ⟨_, rfl⟩
      rw [hx] at hcA
      rw [hy] at hcB hbd
      have HX := Aside0.mk hx
      have HY := Aside0.mk hy
      obtain ⟨hb1, hb2⟩ := hbd
      have e1 : ((kk : Int) - 1).toNat = kk - 1 := by omega
      have k1 : 0 ≤ (kk : Int) - 1 := by omega
      have k2 : (kk : Int) - 1 < (l.length : Int) := by omega
      have k3 : (kk : Int) < (l.length : Int) := by omega
      clear hc hx hy
      by_cases heq : x = -y
      · have b1 : (x == -y) = true := by simp [heq]
        have HF : Aside0 (normL c = ([], true)) := ⟨by rw [HNF.out, oppB_true h1 hlt (by rw [HX.out, HY.out]; exact heq)]; rfl⟩
        clear heq
        go_wp2
        go_quiet (fail)
        go_wp2
        go_ret2
        exact ⟨_, by rw [HF.out]; rfl, by rw [HF.out]; exact Kd.R_nil _ _ _ _ _, HBB.out.trans ((HD.out.step _).below.mono HBB.out.size)⟩
      · have b1 : (x == -y) = false := by simp [heq]
        have HN2 : Aside0 (∀ j, 1 ≤ j → j < kk + 1 → l.getD j 0 ≠ -(l.getD (j - 1) 0)) := ⟨fun j q1 q2 => by
          by_cases e : j = kk
          · subst e; rw [HX.out, HY.out]; exact heq
          · exact HN.out j q1 (by omega)⟩
        clear heq
        go_wp2
        go_quiet (fail)
        go_wp2
        go_roundg (l.length - (kk + 1))
        case measure => omega
        case rel => exact ⟨kk + 1, by omega, .inl (by omega), by omega, by go_num, ⟨HD.out.step _⟩, HN2⟩
    · have HF : Aside0 (normL c = (l, false)) := ⟨by rw [HNF.out, oppB_false (fun k q1 q2 => HN.out k q1 (by omega))]; rfl⟩
      go_wp2
      go_ret2
      exact ⟨_, by rw [HF.out]; rfl, by rw [HF.out]; exact Kd.R_below HRR.out HD.out.below, HBB.out.trans (HD.out.below.mono HBB.out.size)⟩
end Go.Proofs.Ytjghhdgebmoohaa
