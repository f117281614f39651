/- slices.Clone, slices.Grow and slices.Concat at rows of rows: what they hand back shares its elements with what came in. -/
import Derived.Test.YtghecdmcghppnaaDoorShelf
import Derived.Test.YtghecdmcghppnaaDoorWNEv
import Derived.Test.YtghecdmcghppnaaDoorCnfW
import Derived.Lib.SliceRun
import Derived.Lib.AppendZerosOnto
import Derived.Lib.Walk
namespace Go.Proofs.YtghecdmcghppnaaDoor
open Go.Shelf Go.RowKit Go.Lib Go.Proofs.YtghecdmcghppnaaDoorW.PrintWords Go.Proofs.YtghecdmcghppnaaDoorW.PrintMore
set_option linter.unusedVariables false
set_option linter.unusedSimpArgs false
theorem infoRow : (Tryd.prog.info? 40).map (fun i => (i.zero, i.size, i.bytes)) = some (some (.slice none 0 0), 1, 24) := by kernel_rfl
theorem eqlRows (w : World) (a : Option Addr) (n c n' c' : Nat) : (binOp .eql 22 (.slice a n c) (.slice none n' c')).run Tryd.prog w = .ok (.bool a.isNone) w := Lib.run_eql_slice_nil w _ _ a n c n' c' Tryd.underlying22
theorem N_made (w : World) (ok : Nat → Prop) (h : ok w.heap.size) : Kd.N (Kd.slice 3 (Kd.int .i64)) 40 (w.alloc (.cells #[] 40)) w.heap.size ok (.slice (some ⟨w.heap.size, 0, none⟩) 0 0) [] :=
  Kd.R_N ⟨fun k hk => by
    have : w.heap.size = k := by simpa [Value.ownBlock] using hk
    subst this
    exact h, [], World.ownsRow_made w #[] 0 (Nat.le_refl _) (Nat.zero_le _) rfl, Reps.none _ _⟩
def slices_Clone_int_int_20.f (l : List (List Int)) : Option (List (List Int)) := if l.length ≤ 1000000000 then some l else none
set_option maxHeartbeats 1000000 in
theorem slices_Clone_int_int_20.calls (P0_ : Nat → Prop) (A0 : Option Addr) (c0 : Nat) (l0 r : List (List Int)) (w : World) (hs0 : Kd.V (Kd.slice 3 (Kd.int .i64)) 40 w w.heap.size (fun k_ => P0_ k_) (.slice A0 l0.length c0) l0) (h : slices_Clone_int_int_20.f l0 = some r) :
    Calls Tryd.prog 20 #[.slice A0 l0.length c0] w fun e w' => ∃ v0_ : Value, e = .returned v0_ ∧ Kd.N (Kd.slice 3 (Kd.int .i64)) 40 w' w.heap.size (fun k_ => (P0_ k_ ∨ w.heap.size ≤ k_)) v0_ r ∧ Below w.heap.size w w' := by
  unfold slices_Clone_int_int_20.f at h
  split at h
  · rename_i hl
    obtain rfl := Option.some.inj h
    have hF := Kd.V_F hs0
    have hq := eqlRows
    cases A0 with
    | none =>
      have hn : l0 = [] := by
        rcases Nat.eq_zero_or_pos l0.length with e | e
        · exact List.length_eq_zero_iff.1 e
        · obtain ⟨ad, e2, _⟩ := (Kd.F_now hF).2.2 e
          cases e2
      subst hn
      clear hF hs0 h
      go_enter Tryd.func20, Tryd.ntmps20
      go_wp2
      go_ret
      exact ⟨_, rfl, Kd.N_nil _ _ _ _ _, Below.refl _ _⟩
    | some ad =>
      have HF := Aside0.mk hF
      have HL := Aside0.mk hl
      clear hF hs0 h hl
      go_enter Tryd.func20, Tryd.ntmps20
      go_wp2_with (at_builtin; refine Kd.N_append_rows (Kd.slice 3 (Kd.int .i64)) (w0 := w) w.heap.size rfl _ _ 22 40 (.slice none 0 0) 24 rfl Tryd.underlying22 infoRow rfl (by decide) (by omega) (.slice (some ⟨w.heap.size, 0, none⟩) 0 0) [] l0 (some ad) l0.length c0 (fun k_ => (P0_ k_ ∨ w.heap.size ≤ k_)) (fun k_ => P0_ k_ ∧ k_ < w.heap.size) rfl rfl ?aO ?aR ?aP ?aF ?aB ?aS ?aL ?_)
      case aO => exact N_made w _ (.inr (Nat.le_refl _))
      case aR => exact Kd.F_alloc (Kd.F_bound HF.out) _
      case aP => exact fun k hk => ⟨.inl hk.1, fun e => by
        have : k = w.heap.size := by simpa [Value.ownBlock] using e
        omega⟩
      case aF => exact fun k hk => .inr (by simp at hk; omega)
      case aB => exact (Below.refl _ _).alloc (Nat.le_refl _) _
      case aS => simp
      case aL => have := HL.out; simp; omega
      intro v1 w1 hN hb _ _
      go_wp2
      go_ret
      exact ⟨_, rfl, hN, hb⟩
  · cases h
set_option maxHeartbeats 4000000 in
set_option maxRecDepth 100000 in
theorem Grow_nil (n : Nat) (hn : n ≤ 1000000000) (w : World) :
    Calls Tryd.prog 50 #[.slice none 0 0, .int .i64 n] w fun e w' => ∃ v, e = .returned v ∧ Kd.N (Kd.slice 3 (Kd.int .i64)) 40 w' w.heap.size (fun k => w.heap.size ≤ k) v [] ∧ Below w.heap.size w w' := by
  have h1 : ¬ ((n : Int) < 0) := by omega
  by_cases h0 : n = 0
  · subst h0
    go_enter Tryd.func50, Tryd.ntmps50
    go_wp2
    go_ret
    exact ⟨_, rfl, Kd.N_nil _ _ _ _ _, Below.refl _ _⟩
  · have h4 : (n : Int) > 0 := by omega
    obtain ⟨i0, hi, hz0, hz1, hz2⟩ := info_parts infoRow
    have hold : (Builtin.firstCells i0.size 0 (.slice none 0 0)).run Tryd.prog w.drew = .ok ([] : List Value).toArray w.drew := run_firstCells_none w.drew i0.size 0 0 0
    have hrz : ∀ ty, (Builtin.append_ #[22, 3] ty #[.slice none 0 0, .int .i64 (n : Int)]).run Tryd.prog w =
        .ok (.slice (some ⟨w.heap.size, 0, none⟩) (0 + n) (grownCap w (0 + n) 0 40)) (w.drew.alloc (.cells (#[] ++ Builtin.zeroCells (Value.slice none 0 0).cells n ++ Builtin.zeroCells (Value.slice none 0 0).cells (grownCap w (0 + n) 0 40 - (0 + n))) 40)) := fun ty => by
      exact Lib.run_append_grow_zeros w 22 3 ty 40 i0 (.slice none 0 0) .i64 .i64 Tryd.underlying22 Tryd.underlying3 hi hz0 none 0 0 [] hold n (by omega) (by omega) (by omega) (by omega)
        (by rw [hz2]; omega) (growslice_fits (by omega) (by rw [hz2]; omega))
    obtain ⟨G, hG⟩ : ∃ G, G = grownCap w (0 + n) 0 40 := ⟨_, rfl⟩
    have hGn : 0 + n ≤ G := hG ▸ grownCap_ge w _ _ _
    have hGm : G ≤ maxLen := hG ▸ grownCap_le_maxLen w (0 + n) 0 40 (by unfold maxLen; omega)
    rw [← hG] at hrz
    have hG63 : G ≤ 9223372036854775807 := by unfold maxLen at hGm; omega
    have HGM := Aside0.mk hGm
    clear hold hG hi hz0 hz1 hz2 h0 hGm
    have hc : 0 ≤ G := Nat.zero_le _
    go_enter Tryd.func50, Tryd.ntmps50
    go_wp2_with (at_builtin; refine Lib.wpList_append_run _ rfl _ _ _ _ rfl _ _ rfl rfl _ _ (hrz _) ?_)
    all_goals
      go_ret
      refine ⟨_, rfl, Kd.R_N ⟨fun k hk => ?_, [], ⟨rfl, .inr ⟨w.heap.size, G, Builtin.zeroCells #[.slice none 0 0] n ++ Builtin.zeroCells #[.slice none 0 0] (G - n), rfl, Nat.le_refl _, ?_, Nat.zero_le _, HGM.out, ?_, rfl⟩⟩, Reps.none _ _⟩, ?_⟩
      · have : w.heap.size = k := by simpa [Value.ownBlock] using hk
        omega
      · exact heap_alloc_new w _
      · show _ = G * 1
        simp [size_zeroCells]
        omega
      · exact below_drew ((Below.refl _ _).alloc (Nat.le_refl _) _)
/-- What is read now is read in whatever heap that has the same blocks. -/
theorem F_of_C (W : World) (A : Option Addr) (n : Nat) (l : List (List Int)) (h : Kd.C (Kd.slice 3 (Kd.int .i64)) W A n l) : Kd.F (Kd.slice 3 (Kd.int .i64)) W (fun _ => True) A n l := by
  intro W' h'
  have hs : W.heap.size ≤ W'.heap.size := by
    rcases Nat.lt_or_ge W'.heap.size W.heap.size with c | c
    · have := h' W'.heap.size trivial c
      rw [Array.getElem?_eq_none (Nat.le_refl _), Array.getElem?_eq_getElem c] at this
      cases this
    · exact c
  have hb : Below W.heap.size W { W' with os := W.os, tape := W.tape, output := W.output } := ⟨rfl, rfl, rfl, hs, fun k hk => h' k trivial hk⟩
  have h2 := Kd.C_below h hb
  exact h2
theorem V_of_C {W : World} {A : Option Addr} {c : Nat} {l : List (List Int)} (h : Kd.C (Kd.slice 3 (Kd.int .i64)) W A l.length l) (hc : l.length ≤ c) (b : Nat) : Kd.V (Kd.slice 3 (Kd.int .i64)) 40 W b (fun _ => True) (.slice A l.length c) l :=
  Kd.V_mk hc (F_of_C W A _ l h)
def slices_Clone_int_int_51.f (l : List Int) : Option (List Int) := if l.length ≤ 1000000000 then some l else none
theorem slices_Clone_int_int_51.calls (A0 : Option Addr) (c0 : Nat) (l0 r : List Int) (w : World) (hr0 : Kd.C (Kd.int .i64) w A0 l0.length l0) (hc0 : l0.length ≤ c0) (h : slices_Clone_int_int_51.f l0 = some r) :
    Calls Tryd.prog 51 #[.slice A0 l0.length c0] w fun e w' => ∃ v0_ : Value, e = .returned v0_ ∧ Kd.R (Kd.int .i64) 3 w' w.heap.size (fun _ => True) v0_ r ∧ Below w.heap.size w w' := by
  unfold slices_Clone_int_int_51.f at h
  split at h
  · rename_i hl
    obtain rfl := Option.some.inj h
    by_cases h0 : 0 < l0.length
    · obtain ⟨ad, rfl, hc⟩ := rowPlaces_ints hr0 h0
      have hp' : ad = ⟨ad.block, ad.off, none⟩ := by
        have hp := hc 0 h0
        obtain ⟨b, o, s⟩ := ad
        cases s with
        | none => rfl
        | some s => simp [World.cell?, Addr.add] at hp; split at hp <;> simp at hp
      rw [hp'] at hc ⊢
      refine (Tryd.slices_Clone_int ad.block ad.off l0.length c0 l0 w (Nat.le_refl _) (by omega) (fun j hj => by have := hc j hj; rwa [Addr.add_lit] at this)).mono ?_
      rintro e w' ⟨v', he, ho, _, hb⟩
      rw [List.take_length] at ho
      exact ⟨v', he, Kd.R_of_own ho (fun _ _ => trivial), hb⟩
    · have : l0 = [] := List.length_eq_zero_iff.1 (by omega)
      subst this
      cases A0 with
      | none =>
        refine (Tryd.slices_Clone_int_nil 0 c0 w).mono ?_
        rintro e w' ⟨rfl, rfl⟩
        exact ⟨_, rfl, Kd.R_nil _ _ _ _ _, Below.refl _ _⟩
      | some ad =>
        refine (Tryd.slices_Clone_int_zero ad c0 w).mono ?_
        rintro e w' ⟨v', he, ho, _, hb⟩
        exact ⟨v', he, Kd.R_of_own (xs := []) ho (fun _ _ => trivial), hb⟩
  · cases h
/-- How long the rows are together. -/
def rowsLen (ls : List (List (List Int))) : Nat := (ls.map List.length).sum
def slices_Concat_int_int.f (ls : List (List (List Int))) : Option (List (List Int)) := if ls.length ≤ 1000 ∧ rowsLen ls ≤ 1000000000 then some ls.flatten else none
theorem rowsLen_take (ls : List (List (List Int))) (k : Nat) : rowsLen (ls.take k) ≤ rowsLen ls := by
  unfold rowsLen
  conv => rhs; rw [← List.take_append_drop k ls, List.map_append, List.sum_append]
  omega
theorem rowsLen_snoc (ls : List (List (List Int))) (k : Nat) (h : k < ls.length) : rowsLen (ls.take (k + 1)) = rowsLen (ls.take k) + (ls.getD k []).length := by
  unfold rowsLen
  rw [List.take_succ_eq_append_getElem h, List.map_append, List.sum_append]
  simp [h]
theorem flatten_snoc (ls : List (List (List Int))) (k : Nat) (h : k < ls.length) : (ls.take (k + 1)).flatten = (ls.take k).flatten ++ ls.getD k [] := by
  rw [List.take_succ_eq_append_getElem h, List.flatten_append]
  simp [h]
theorem flatten_len (ls : List (List (List Int))) : ls.flatten.length = rowsLen ls := by
  unfold rowsLen
  exact List.length_flatten
set_option maxHeartbeats 4000000 in
set_option maxRecDepth 100000 in
theorem slices_Concat_int_int.calls (P0_ : Nat → Prop) (A0 : Option Addr) (c0 : Nat) (l0 : List (List (List Int))) (r : List (List Int)) (w : World) (hs0 : Kd.V (Kd.slice 40 (Kd.slice 3 (Kd.int .i64))) 22 w w.heap.size (fun k_ => P0_ k_) (.slice A0 l0.length c0) l0) (h : slices_Concat_int_int.f l0 = some r) :
    Calls Tryd.prog 29 #[.slice A0 l0.length c0] w fun e w' => ∃ v0_ : Value, e = .returned v0_ ∧ Kd.N (Kd.slice 3 (Kd.int .i64)) 40 w' w.heap.size (fun k_ => (P0_ k_ ∨ w.heap.size ≤ k_)) v0_ r ∧ Below w.heap.size w w' := by
  unfold slices_Concat_int_int.f at h
  split at h
  · rename_i hl
    obtain rfl := Option.some.inj h
    have HV := Aside0.mk (Kd.V_bound hs0)
    have HL := Aside0.mk hl
    have h1 : l0.length ≤ 1000 := hl.1
    clear hs0 h hl
    go_enter Tryd.func29, Tryd.ntmps29
    go_wp2
    go_loop [3, 11] (fun s3 s11 => ∃ k : Nat, k ≤ l0.length ∧ s11 = .int .i64 k ∧ s3 = .int .i64 (rowsLen (l0.take k))) (fun _ s11 => l0.length - (RowKit.intOf s11).toNat)
    case atStart => exact ⟨0, Nat.zero_le _, rfl, rfl⟩
    case round =>
      obtain ⟨k, hk, rfl, rfl⟩ := hrel
      have g1 := rowsLen_take l0 k
      by_cases hlt : k < l0.length
      · have g2 := rowsLen_snoc l0 k hlt
        have g3 := rowsLen_take l0 (k + 1)
        have g4 : rowsLen (l0.take k) ≤ 1000000000 := by have := HL.out; omega
        have g5 : (l0.getD k []).length ≤ 1000000000 := by have := HL.out; omega
        have H2 := Aside0.mk g2
        clear g1 g2 g3
        have hA : ∃ ad, A0 = some ad := by
          obtain ⟨ad, e, _⟩ := (Kd.F_now (Kd.V_F HV.out)).2.2 (by omega)
          exact ⟨ad, e⟩
        obtain ⟨ad, rfl⟩ := hA
        obtain ⟨cs, _, hK, hcc⟩ := Kd.V_get HV.out [] (k : Int) (by omega) (by omega)
        obtain ⟨A', c', rfl, _, _⟩ := Kd.FK_now hK
        have hcell : w.cell? (ad.add k) = some (.slice A' (l0.getD k []).length c') := by
          have := hcc 0 _ rfl
          simpa [Kd.slice] using this
        clear hK hcc
        generalize hq : (l0.getD k []).length = q at *
        go_wp2
        go_round
        case rel => exact ⟨k + 1, by omega, by go_num, by rw [H2.out]; go_num⟩
        case measure => simp [RowKit.intOf]; omega
      · have hkl : k = l0.length := by omega
        subst hkl
        rw [List.take_length]
        have HG := Aside0.mk (Grow_nil (rowsLen l0) HL.out.2 w)
        clear g1
        go_wp2_with (go_at_call 50; refine (HG.out).mono ?_; rintro e w1 ⟨v1, rfl, hN, hb⟩; have HN := Aside0.mk hN; have HB := Aside0.mk hb; clear hN hb)
        go_loopg [6, 27] l0.length (fun gg s6 s27 wr => ∃ k : Nat, k ≤ l0.length ∧ l0.length - k ≤ gg ∧ s27 = .int .i64 k ∧ Aside0 (Kd.N (Kd.slice 3 (Kd.int .i64)) 40 wr w.heap.size (fun k_ => ((P0_ k_ ∧ k_ < w.heap.size) ∨ w.heap.size ≤ k_)) s6 (l0.take k).flatten) ∧ Aside0 (Below w.heap.size w wr))
        case atStart => exact ⟨0, Nat.zero_le _, by omega, rfl, ⟨Kd.N_mono HN.out (fun k hk => .inr hk)⟩, HB⟩
        case round =>
          obtain ⟨k, hk, hg, rfl, HN2, HB2⟩ := hrel
          by_cases hlt : k < l0.length
          · have hA : ∃ ad, A0 = some ad := by
              obtain ⟨ad, e, _⟩ := (Kd.F_now (Kd.V_F HV.out)).2.2 (by omega)
              exact ⟨ad, e⟩
            obtain ⟨ad, rfl⟩ := hA
            obtain ⟨cs, _, hK, hcc⟩ := Kd.V_get HV.out [] (k : Int) (by omega) (by omega)
            obtain ⟨A', c', rfl, _, _⟩ := Kd.FK_now hK
            have hcell : wr.cell? (ad.add k) = some (.slice A' (l0.getD k []).length c') := pw_cell_below HB2.out (by
              have := hcc 0 _ rfl
              simpa [Kd.slice] using this)
            have HF : Aside0 (Kd.F (Kd.slice 3 (Kd.int .i64)) wr (fun k_ => P0_ k_ ∧ k_ < w.heap.size) A' (l0.getD k []).length (l0.getD k [])) := ⟨Kd.F_below (fun W' hW => by
              obtain ⟨A2, c2, e2, _, hC⟩ := hK W' hW
              have e3 := List.singleton_inj.1 e2
              injection e3 with e4
              subst e4
              exact hC) HB2.out⟩
            have h2 := rowsLen_snoc l0 k hlt
            have h3 := rowsLen_take l0 (k + 1)
            have h4 := flatten_len (l0.take k)
            have H5 := Aside0.mk (flatten_snoc l0 k hlt)
            have HX : Aside0 (((l0.take k).flatten.length + (l0.getD k []).length) * 24 ≤ 140737488355328) := ⟨by have := HL.out; omega⟩
            clear hK hcc h2 h3 h4
            obtain ⟨q, hq⟩ : ∃ q, (l0.getD k []).length = q := ⟨_, rfl⟩
            rw [hq] at hcell HF HX
            clear hq
            go_wp2_with (at_builtin; refine Kd.N_append_rows (Kd.slice 3 (Kd.int .i64)) (w0 := w) w.heap.size rfl _ _ 22 40 (.slice none 0 0) 24 rfl Tryd.underlying22 infoRow rfl (by decide) (by omega) _ (l0.take k).flatten (l0.getD k []) A' q c' (fun k_ => ((P0_ k_ ∧ k_ < w.heap.size) ∨ w.heap.size ≤ k_)) (fun k_ => P0_ k_ ∧ k_ < w.heap.size) rfl rfl HN2.out HF.out ?aP ?aF HB2.out HB2.out.size HX.out ?_; (case aP => exact fun k hk => ⟨.inl hk, fun e => absurd (Kd.N_base HN2.out k e.symm) (by omega)⟩); (case aF => exact fun k hk => .inr (Nat.le_trans HB2.out.size hk)); intro v2 w2 hN hb _ _; have HN3 := Aside0.mk hN; have HB3 := Aside0.mk hb; clear hN hb)
            go_roundg (l0.length - (k + 1))
            case measure => omega
            case rel => exact ⟨k + 1, by omega, by omega, by go_num, ⟨by rw [H5.out]; exact HN3.out⟩, HB3⟩
          · have hkl : k = l0.length := by omega
            subst hkl
            obtain ⟨A2, c2, hv⟩ := Kd.N_slice HN2.out
            subst hv
            have HN3 : Aside0 (Kd.N (Kd.slice 3 (Kd.int .i64)) 40 wr w.heap.size (fun k_ => (P0_ k_ ∨ w.heap.size ≤ k_)) (.slice A2 (l0.take l0.length).flatten.length c2) l0.flatten) := ⟨by
              have := Kd.N_mono HN2.out (fun k hk => (hk.imp (fun h => h.1) id : P0_ k ∨ w.heap.size ≤ k))
              rw [List.take_length] at this ⊢
              exact this⟩
            clear HN2
            go_wp2
            go_ret
            exact ⟨_, rfl, HN3.out, HB2.out⟩
  · cases h
end Go.Proofs.YtghecdmcghppnaaDoor
