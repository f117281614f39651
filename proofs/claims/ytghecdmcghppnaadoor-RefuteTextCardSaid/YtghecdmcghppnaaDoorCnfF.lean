/- cnf.Unit: the walk. -/
import Derived.Test.YtghecdmcghppnaaDoorCnfE
namespace Go.Proofs.YtghecdmcghppnaaDoor
open Go.RowKit Go.Proofs.YtghecdmcghppnaaDoorW.PrintWords Go.Proofs.YtghecdmcghppnaaDoorW.PrintMore
set_option linter.unusedVariables false
set_option linter.unusedSimpArgs false

theorem made_block {w : World} {base g n : Nat} (h : w.ownsRow base 3 1 (.slice (some ⟨g, 0, none⟩) n n) n (madeCells #[.int .i64 0] (n * 1)).toList) : w.heap[g]? = some (.cells ((List.replicate n (0 : Int)).map (Value.int .i64)).toArray 3 (0, 0)) := by
  rcases h.2 with ⟨h0, _⟩ | ⟨g', cap, cur, he, _, hh, _, _, hs, ht⟩
  · cases h0
  · injection he with h1 h2 h3
    injection h1 with h1
    injection h1 with h1
    subst h1 h3
    rw [hh]
    congr 2
    apply Array.ext'
    rw [List.take_of_length_le (by simp [hs])] at ht
    rw [ht]
    apply List.ext_getElem
    · simp [madeCells]
    · intro i h1 h2
      simp [madeCells, Nat.mod_one]
theorem foldl_snoc {α β : Type} [Inhabited β] (f : α → β → α) (a : α) (l : List β) (k : Nat) (h : k < l.length) : (l.take (k + 1)).foldl f a = f ((l.take k).foldl f a) (l[k]'h) := by
  rw [List.take_succ_eq_append_getElem h, List.foldl_append]
  rfl
theorem ex_u {F : (Nat → Value) → Act} (a : Act) (h : a = F (fun i => a.tmps.getD i undef)) : ∃ u, a = F u := ⟨_, h⟩
theorem USt.result {w W : World} {bt bs n : Nat} {A : Option Addr} {c ln : Nat} {row : List Int} {cl : Bool} {s : List Int} {rv : Value} (h : USt w W bt bs n A c ln row cl s rv) : Kd.R (Kd.int .i64) 3 W w.heap.size (fun _ => True) rv row :=
  Kd.R_lower (Kd.R_of_own h.t.own (fun _ _ => trivial)) (by have := h.lt; have := h.t.lt; omega)

set_option maxRecDepth 100000 in
set_option maxHeartbeats 16000000 in
theorem cnf_Unit_any (n : Nat) (A : Option Addr) (c : Nat) (l : List (List Int)) (M : Option Addr) (d : Nat) (m : List Int) (w : World) (hr : Kd.C (Kd.slice 3 (Kd.int .i64)) w A l.length l) (hm : Kd.C (Kd.int .i64) w M m.length m) (ht : total l < 1152921504606846976) (hz : checkZ n l = 0) (hall : allB m n = true) (hmlen : m.length ≤ 100000000) :
    Calls Tryd.prog 22 #[.agg #[.int .i64 n, .slice A l.length c], .slice M m.length d] w fun e w' => ∃ v0_ : Value, e = .returned (.tuple #[v0_, .bool (unitL n l m).2]) ∧ Kd.R (Kd.int .i64) 3 w' w.heap.size (fun _ => True) v0_ (unitL n l m).1 ∧ Below w.heap.size w w' := by
  obtain ⟨h0, h1, h2, hcl⟩ := checkZ_zero hz
  have hchk : ∀ W : World, Below w.heap.size w W → Calls Tryd.prog 19 #[.agg #[.int .i64 n, .slice A l.length c]] W fun e w' => e = .returned (.int .i64 0) ∧ Below W.heap.size W w' := fun W hb => by rw [← hz]; exact cnf_Check_any n A c l W (Kd.C_below hr hb) ht
  have hal : ∀ W : World, Below w.heap.size w W → Calls Tryd.prog 41 #[.slice M m.length d, .int .i64 n] W fun e w' => e = .returned (.bool true) ∧ Below W.heap.size W w' := fun W hb => by rw [← hall]; exact cnf_all_any M d m n W (Kd.C_below hm hb)
  have HCHK := Aside0.mk hchk
  have HAL := Aside0.mk hal
  have a1 : Below w.heap.size w (w.alloc (Obj.cells #[Value.int IntKind.i64 n, Value.slice A l.length c] 24)) := (Below.refl _ w).alloc (Nat.le_refl _) _
  have A1 := Aside0.mk a1
  have hml : m.length ≤ 9223372036854775807 := hm.2.1
  have hll : l.length ≤ 9223372036854775807 := hr.2.1
  have hn : (n : Int) ≤ 100000 := h1
  have HR := Aside0.mk hr
  have HM := Aside0.mk hm
  have HCL : Aside0 (∀ cc ∈ l, ∀ y ∈ cc, y ≠ 0 ∧ y.natAbs ≤ n) := ⟨fun cc hcc y hy => by
    have h := hcl cc hcc
    unfold allB at h
    rw [List.all_eq_true] at h
    obtain ⟨q0, _, _, q3⟩ := litB_bounds (h y hy) h0 h1
    exact ⟨q0, by omega⟩⟩
  have HML : Aside0 (∀ y ∈ m, y ≠ 0 ∧ y.natAbs ≤ n) := ⟨fun y hy => by
    have h := hall
    unfold allB at h
    rw [List.all_eq_true] at h
    obtain ⟨q0, _, _, q3⟩ := litB_bounds (h y hy) h0 h1
    exact ⟨q0, by omega⟩⟩
  obtain ⟨i0, hi, hz0, hz1, hz2⟩ := info_parts info_int
  have HZ : Aside0 (∀ W : World, ∃ o, o = Nat.zero) := ⟨fun _ => ⟨_, rfl⟩⟩
  clear hchk hal a1 hz hall h1 hr hm hcl
  go_enter Tryd.func22, Tryd.ntmps22
  go_wp2
  refine wp_scope_ghost 0 (fun k a' W => ∃ (bt bs : Nat) (row s : List Int) (rv : Value), USt w W bt bs n A c l.length row false s rv ∧ SInv n row s ∧ zeros s ≤ k ∧ row.length + zeros s ≤ m.length + n + 1 ∧ (∀ y ∈ row, y ≠ 0 ∧ y.natAbs ≤ n) ∧ unitL n l m = unitsL l (zeros s + 1) row s ∧ ∃ u : Nat → Value, a' = { tmps := #[.agg #[.int .i64 n, .slice A l.length c], .slice M m.length d, .pointer (some ⟨w.heap.size, 0, none⟩), u 3, u 4, u 5, .pointer (some ⟨bt, 0, none⟩), u 7, u 8, u 9, u 10, u 11, u 12, u 13, u 14, u 15, u 16, u 17, u 18, u 19, u 20, u 21, u 22, u 23, u 24, u 25, u 26, u 27, u 28, u 29, u 30, u 31, u 32, u 33, u 34, u 35, u 36, u 37, u 38, u 39, u 40, u 41, u 42, u 43, u 44, u 45, u 46, u 47, u 48, u 49, u 50, u 51, u 52, u 53, u 54, u 55, u 56, u 57, u 58, u 59, u 60, u 61, u 62, u 63, u 64, u 65, u 66, u 67, u 68, u 69, u 70, u 71, u 72, u 73, u 74, u 75, u 76, u 77, u 78, u 79, u 80, u 81, u 82, u 83, u 84, u 85, u 86, u 87], defers := [] }) rfl ?_ ?_
  · rintro k a' W ⟨bt, bs, row, s, rv, hU, hS, hk, hrl, hrow, hu, u, rfl⟩ R hgo hret
    have HU := Aside0.mk hU
    have HS := Aside0.mk hS
    have HRET := Aside0.mk hret
    have HGO := Aside0.mk hgo
    have HUU := Aside0.mk hu
    have HROW := Aside0.mk hrow
    have hzp := zeros_pos hS
    clear hret hgo hu hrow hS
    obtain ⟨q0, q1, q2, _⟩ := hU.t.cells
    have q3 := hU.c1
    obtain ⟨V, hV, hVs⟩ := rowPlaces_intss (Kd.C_below HR.out hU.bel)
    have HV := Aside0.mk hV
    have HVS := Aside0.mk hVs
    clear hV hVs hU
    go_wp2
    go_loopg [9, 58] l.length (fun gg s9 s58 wr => ∃ (kk : Nat) (next : Int), kk ≤ l.length ∧ l.length - kk ≤ gg ∧ s58 = .int .i64 kk ∧ s9 = .int .i64 next ∧ Aside0 (Drawn0 W wr) ∧ Aside0 (scanL (s.getD · 0) l 0 = scanL (s.getD · 0) (l.drop kk) next))
    case atStart => exact ⟨0, 0, Nat.zero_le _, by omega, rfl, rfl, ⟨Drawn0.refl _⟩, ⟨rfl⟩⟩
    case round =>
      obtain ⟨kk, next, hkk, hg, rfl, rfl, HD, HE⟩ := hrel
      have hU2 := HU.out.drawn HD.out.below
      obtain ⟨r0, r1, r2, _⟩ := hU2.t.cells
      have HU2 := Aside0.mk hU2
      clear hU2
      by_cases hlt : kk < l.length
      · obtain ⟨ad, rfl, hc⟩ := HV.out (by omega)
        obtain ⟨A2, c2, hv, _, hK2⟩ := HVS.out kk hlt
        have hcell : wr.cell? (ad.add kk) = some (.slice A2 (l.getD kk []).length c2) := by rw [← hv]; exact pw_cell_below HD.out.below (hc kk hlt)
        have hmem : l.getD kk [] ∈ l := by simp [hlt]
        have hdrop : l.drop kk = l.getD kk [] :: l.drop (kk + 1) := by rw [List.drop_eq_getElem_cons hlt]; simp [hlt]
        have hopen := fun WW (hb : Below wr.heap.size wr WW) => cnf_open_any bt bs n row false s rv A2 c2 (l.getD kk []) WW (by omega) (HU2.out.t.below hb) (Kd.C_below (Kd.C_below hK2 HD.out.below) hb) (HCL.out _ hmem)
        have HE2 := Aside0.mk (HE.out.trans (by rw [hdrop]))
        have hcc : (l.getD kk []).length ≤ 9223372036854775807 := hK2.2.1
        have HOPEN := Aside0.mk hopen
        clear hc hv hmem hdrop hopen hK2 HE
        generalize l.getD kk [] = cc at *
        by_cases b1 : (openL (s.getD · 0) cc 0 false).2 = true
        · have HF : Aside0 (scanL (s.getD · 0) l 0 = scanL (s.getD · 0) (l.drop (kk + 1)) next) := ⟨by rw [HE2.out]; simp only [scanL]; rw [if_pos b1]⟩
          rw [b1] at HOPEN
          generalize (openL (s.getD · 0) cc 0 false).1 = x at *
          clear b1
          go_wp2_with (go_at_call 44; refine (HOPEN.out _ (Below.refl _ _)).mono ?_; rintro e w' ⟨rfl, ⟨nd, rfl⟩⟩)
          go_roundg (l.length - (kk + 1))
          case measure => omega
          case rel => exact ⟨kk + 1, next, by omega, by omega, by go_num, rfl, ⟨HD.out.step _⟩, HF⟩
        · have hb1 : (openL (s.getD · 0) cc 0 false).2 = false := by simpa using b1
          by_cases b2 : (openL (s.getD · 0) cc 0 false).1 = 0
          · have HF : Aside0 (unitL n l m = (row, true)) := ⟨by rw [HUU.out]; simp only [unitsL]; rw [HE2.out]; simp only [scanL]; rw [if_neg b1, if_pos b2]⟩
            rw [hb1, b2] at HOPEN
            clear b1 hb1 b2
            go_wp2_with (go_at_call 44; refine (HOPEN.out _ (Below.refl _ _)).mono ?_; rintro e w' ⟨rfl, ⟨nd, rfl⟩⟩)
            refine HRET.out _ _ ?_
            go_ret2
            exact ⟨rv, by rw [HF.out]; rfl, by rw [HF.out]; exact (HU2.out.drawn (below_of_drawn _)).result, (HU2.out.drawn (below_of_drawn _)).bel⟩
          · have b2' : ((openL (s.getD · 0) cc 0 false).1 == 0) = false := by simpa using b2
            rw [hb1] at HOPEN
            by_cases b3 : next = 0
            · have b3' : (next == 0) = true := by simp [b3]
              have HF : Aside0 (scanL (s.getD · 0) l 0 = scanL (s.getD · 0) (l.drop (kk + 1)) (openL (s.getD · 0) cc 0 false).1) := ⟨by rw [HE2.out]; simp only [scanL]; rw [if_neg b1, if_neg b2, if_pos b3]⟩
              clear b1 hb1 b2 b3
              generalize (openL (s.getD · 0) cc 0 false).1 = x at *
              go_wp2_with (go_at_call 44; refine (HOPEN.out _ (Below.refl _ _)).mono ?_; rintro e w' ⟨rfl, ⟨nd, rfl⟩⟩)
              go_roundg (l.length - (kk + 1))
              case measure => omega
              case rel => exact ⟨kk + 1, x, by omega, by omega, by go_num, rfl, ⟨HD.out.step _⟩, HF⟩
            · have b3' : (next == 0) = false := by simp [b3]
              have HF : Aside0 (scanL (s.getD · 0) l 0 = scanL (s.getD · 0) (l.drop (kk + 1)) next) := ⟨by rw [HE2.out]; simp only [scanL]; rw [if_neg b1, if_neg b2, if_neg b3]⟩
              clear b1 hb1 b2 b3
              generalize (openL (s.getD · 0) cc 0 false).1 = x at *
              go_wp2_with (go_at_call 44; refine (HOPEN.out _ (Below.refl _ _)).mono ?_; rintro e w' ⟨rfl, ⟨nd, rfl⟩⟩)
              go_roundg (l.length - (kk + 1))
              case measure => omega
              case rel => exact ⟨kk + 1, next, by omega, by omega, by go_num, rfl, ⟨HD.out.step _⟩, HF⟩
      · have : kk = l.length := by omega
        subst this
        have HF : Aside0 (scanL (s.getD · 0) l 0 = some next) := ⟨by rw [HE.out, List.drop_length]; rfl⟩
        clear HE
        by_cases b1 : next = 0
        · have b1' : (next != 0) = false := by simp [b1]
          have HG : Aside0 (unitL n l m = (row, false)) := ⟨by rw [HUU.out]; simp only [unitsL]; rw [HF.out]; simp [b1]⟩
          clear b1
          go_wp2
          refine HRET.out _ _ ?_
          go_ret2
          exact ⟨rv, by rw [HG.out]; rfl, by rw [HG.out]; exact HU2.out.result, HU2.out.bel⟩
        · have b1' : (next != 0) = true := by simp [b1]
          obtain ⟨cc, hcc, hin, hs1, hs2⟩ := (scanL_next _ _ _ _ HF.out b1).resolve_left b1
          obtain ⟨hn0, hn1⟩ := HCL.out cc hcc next hin
          have hs0 : s.getD next.natAbs 0 = 0 := by
            rcases HS.out.at_ next.natAbs hn1 with h | ⟨h, _, _⟩
            · exact h
            · exfalso
              have h1 : s.getD next.natAbs 0 ≠ next := hs1
              have h2 : s.getD next.natAbs 0 ≠ -next := hs2
              omega
          have hzs := zeros_set (s := s) (j := next.natAbs) (x := next) (by have := HS.out.len; omega) hs0 hn0
          have hput := fun WW (hb : Below wr.heap.size wr WW) => cnf_put_new bt bs n row false s rv next WW (by omega) (HU2.out.t.below hb) hn0 hn1 hs0 (by omega)
          have HPUT := Aside0.mk hput
          have HN := Aside0.mk (SInv.put HS.out next hn0 hn1)
          have HG : Aside0 (unitL n l m = unitsL l (zeros (s.set next.natAbs next) + 1) (row ++ [next]) (s.set next.natAbs next)) := ⟨by rw [HUU.out, show unitsL l (zeros s + 1) row s = (match scanL (s.getD · 0) l 0 with | none => (row, true) | some x => if x = 0 then (row, false) else unitsL l (zeros s) (row ++ [x]) (s.set x.natAbs x)) from rfl, HF.out]; simp only [if_neg b1]; rw [hzs]⟩
          have HROW2 : Aside0 (∀ y ∈ row ++ [next], y ≠ 0 ∧ y.natAbs ≤ n) := ⟨fun y hy => by
            rcases List.mem_append.1 hy with h | h
            · exact HROW.out y h
            · rw [List.mem_singleton.1 h]; exact ⟨hn0, hn1⟩⟩
          have hlen : (row ++ [next]).length + zeros (s.set next.natAbs next) ≤ m.length + n + 1 := by simp; omega
          have hlt2 : zeros (s.set next.natAbs next) < k := by omega
          generalize s.set next.natAbs next = s2 at *
          clear hput hs0 hs1 hs2 hzs b1 hin hcc
          go_wp2_with (go_at_call 43; refine (HPUT.out _ (Below.refl _ _)).mono ?_; rintro e w' ⟨rfl, hp⟩; have HP := Aside0.mk hp; clear hp)
          go_step3
          obtain ⟨rv', hU3⟩ := HU2.out.put HP.out
          refine HGO.out _ _ _ hlt2 ⟨bt, bs, _, _, rv', hU3, HN.out, Nat.le_refl _, hlen, HROW2.out, HG.out, ?_⟩
          exact ex_u _ rfl
  · intro hpass
    have HPASS := Aside0.mk hpass
    clear hpass
    go_wp2_with (first | (at_make; refine wpList_make_full _ rfl _ _ 40 rfl _ 3 i0 (.int .i64 0) 1 Tryd.underlying40 hi hz0 hz1 .i64 .i64 _ _ (n + 1) rfl rfl (by omega) (by omega) (by rw [hz2]; omega) (by unfold maxLen; omega) (Nat.le_refl _) ?_; intro w3 hown hgrow; have HO := Aside0.mk hown; have HG := Aside0.mk hgrow; clear hown hgrow) | (go_at_call 19; refine ((HCHK.out) _ A1.out).mono ?_; rintro e w' ⟨rfl, hb⟩; have hc0 := hb.cell (p := ⟨w.heap.size, 0, none⟩) (by simp); have hc1 := hb.cell (p := ⟨w.heap.size, 1, none⟩) (by simp); have hs := hb.size; simp at hc0 hc1 hs; have HB := Aside0.mk hb; clear hb) | (go_at_call 41; refine ((HAL.out) _ (A1.out.trans (HB.out.mono A1.out.size))).mono ?_; rintro e w2 ⟨rfl, hb⟩; have hd0 := hb.cell (p := ⟨w.heap.size, 0, none⟩) (by show w.heap.size < w'.heap.size; omega); have hd1 := hb.cell (p := ⟨w.heap.size, 1, none⟩) (by show w.heap.size < w'.heap.size; omega); rw [hc0] at hd0; rw [hc1] at hd1; have hs2 := hb.size; have HB2 := Aside0.mk hb; clear hb))
    have hlt23 : w2.heap.size < w3.heap.size := own_lt HO.out _ rfl
    have hU0 : USt w (w3.alloc (.cells #[.slice none 0 0, .slice (some ⟨w2.heap.size, 0, none⟩) (n + 1) (n + 1), .bool false] 75)) w3.heap.size w2.heap.size n A c l.length [] false (List.replicate (n + 1) 0) (.slice none 0 0) := by
      have hb3 : Below w.heap.size w w3 := ((A1.out.trans (HB.out.mono A1.out.size)).trans (HB2.out.mono (Nat.le_trans A1.out.size HB.out.size))).grown HG.out (by omega) (by intro k hk; cases hk)
      have e0 : w3.heap[w.heap.size]? = w2.heap[w.heap.size]? := HG.out.block _ (by omega) (by simp)
      refine ⟨⟨?_, ?_, by simp, own_nil _ _ _ _, hlt23⟩, ?_, ?_, by omega, hb3.alloc (by omega) _⟩
      · exact heap_alloc_new _ _
      · rw [show (w3.alloc _).heap[w2.heap.size]? = w3.heap[w2.heap.size]? from heap_alloc_old _ _ hlt23]
        exact made_block HO.out
      · rw [World.cell?_of_block (w := w2) (by rw [← e0]; exact heap_alloc_old _ _ (by show w.heap.size < w3.heap.size; omega))]
        exact hd0
      · rw [World.cell?_of_block (w := w2) (by rw [← e0]; exact heap_alloc_old _ _ (by show w.heap.size < w3.heap.size; omega))]
        exact hd1
    have HU0 := Aside0.mk hU0
    clear hU0 HO HG HB HB2 HCHK HAL A1 hc0 hc1 hd0 hd1
    generalize w2.heap.size = bs at *
    generalize w3.heap.size = bt at *
    generalize (w3.alloc (.cells #[.slice none 0 0, .slice (some ⟨bs, 0, none⟩) (n + 1) (n + 1), .bool false] 75)) = W0 at *
    have hi0 : Aside0 (SInv n [] (List.replicate (n + 1) 0)) := ⟨SInv.start n⟩
    obtain ⟨q0, q1, q2, _⟩ := HU0.out.t.cells
    have hrm := Aside0.mk (rowPlaces_ints (Kd.C_below HM.out HU0.out.bel))
    go_loopg [32] m.length (fun gg s32 wr => ∃ (kk : Nat) (row s : List Int) (rv : Value) (cl : Bool), kk ≤ m.length ∧ m.length - kk ≤ gg ∧ s32 = .int .i64 kk ∧ Aside0 (USt w wr bt bs n A c l.length row cl s rv) ∧ Aside0 (Below bs W0 wr) ∧ Aside0 (SInv n row s) ∧ Aside0 ((m.take kk).foldl putStep ([], false, List.replicate (n + 1) 0) = (row, cl, s)) ∧ row.length ≤ kk ∧ Aside0 (∀ y ∈ row, y ≠ 0 ∧ y.natAbs ≤ n))
    case atStart => exact ⟨0, [], _, _, false, Nat.zero_le _, by omega, rfl, HU0, ⟨Below.refl _ _⟩, hi0, ⟨rfl⟩, Nat.le_refl _, ⟨fun y hy => by simp at hy⟩⟩
    case round =>
      obtain ⟨kk, row, s, rv, cl, hkk, hg, rfl, HU, HB0, HS, HF, hrl, HROW⟩ := hrel
      clear q0 q1 q2
      obtain ⟨q0, q1, q2, _⟩ := HU.out.t.cells
      by_cases hlt : kk < m.length
      · obtain ⟨ad, rfl, hc⟩ := (rowPlaces_ints (Kd.C_below HM.out HU.out.bel)) (by omega)
        have hcell : wr.cell? (ad.add kk) = some (.int .i64 (m.getD kk 0)) := hc kk hlt
        have hmem : m.getD kk 0 ∈ m := by simp [hlt]
        obtain ⟨hx0, hx1⟩ := HML.out _ hmem
        have hsn := foldl_snoc putStep ([], false, List.replicate (n + 1) 0) m kk hlt
        rw [HF.out, show m[kk] = m.getD kk 0 by simp [hlt]] at hsn
        have HSN := Aside0.mk hsn
        obtain ⟨A', c', rfl, _, hK⟩ := HU.out.t.row_reads
        clear hc hmem hsn
        generalize m.getD kk 0 = x at *
        have hcon := Contains_ints A' c' row x wr hK
        cases hb : row.contains x with
        | true =>
          rw [hb] at hcon
          have HCON := Aside0.mk hcon
          have HF2 : Aside0 ((m.take (kk + 1)).foldl putStep ([], false, List.replicate (n + 1) 0) = (row, cl, s)) := ⟨by rw [HSN.out]; simp only [putStep]; rw [if_pos hb]⟩
          clear hcon hb hK hx0
          go_wp2_with (go_at_call 42; refine (HCON.out).mono ?_; rintro e w' ⟨rfl, rfl⟩)
          go_roundg (m.length - (kk + 1))
          case measure => omega
          case rel => exact ⟨kk + 1, row, s, _, cl, by omega, by omega, by go_num, HU, HB0, HS, HF2, by omega, HROW⟩
        | false =>
          rw [hb] at hcon
          have HCON := Aside0.mk hcon
          have hnm : x ∉ row := by simpa using hb
          have HROW2 : Aside0 (∀ y ∈ row ++ [x], y ≠ 0 ∧ y.natAbs ≤ n) := ⟨fun y hy => by
            rcases List.mem_append.1 hy with h | h
            · exact HROW.out y h
            · rw [List.mem_singleton.1 h]; exact ⟨hx0, hx1⟩⟩
          have hrl2 : (row ++ [x]).length ≤ kk + 1 := by simp; omega
          by_cases hs : s.getD x.natAbs 0 = -x
          · have HPUT := Aside0.mk (cnf_put_clash bt bs n row cl s _ x wr (by omega) HU.out.t hx0 hx1 hs (by omega))
            have HF2 : Aside0 ((m.take (kk + 1)).foldl putStep ([], false, List.replicate (n + 1) 0) = (row ++ [x], true, s)) := ⟨by rw [HSN.out]; simp only [putStep]; rw [if_neg (by simpa using hnm), if_pos hs]⟩
            have HS2 := Aside0.mk (HS.out.more x)
            clear hcon hb hnm hs hK hx0
            go_wp2_with (first | (go_at_call 42; refine (HCON.out).mono ?_; rintro e w' ⟨rfl, rfl⟩) | (go_at_call 43; refine (HPUT.out).mono ?_; rintro e w' ⟨rfl, hp⟩; have HP := Aside0.mk hp; clear hp))
            go_roundg (m.length - (kk + 1))
            case measure => omega
            case rel =>
              obtain ⟨rv', hU3⟩ := HU.out.put HP.out
              obtain ⟨_, _, hbb⟩ := HP.out
              exact ⟨kk + 1, _, _, rv', true, by omega, by omega, by go_num, ⟨hU3⟩, ⟨HB0.out.trans hbb⟩, HS2, HF2, hrl2, HROW2⟩
          · have hs0 : s.getD x.natAbs 0 = 0 := (HS.out.fresh hx0 hx1 hnm).resolve_left hs
            have HPUT := Aside0.mk (cnf_put_new bt bs n row cl s _ x wr (by omega) HU.out.t hx0 hx1 hs0 (by omega))
            have HF2 : Aside0 ((m.take (kk + 1)).foldl putStep ([], false, List.replicate (n + 1) 0) = (row ++ [x], cl, s.set x.natAbs x)) := ⟨by rw [HSN.out]; simp only [putStep]; rw [if_neg (by simpa using hnm), if_neg hs]⟩
            have HS2 := Aside0.mk (HS.out.put x hx0 hx1)
            clear hcon hb hnm hs hs0 hK hx0
            go_wp2_with (first | (go_at_call 42; refine (HCON.out).mono ?_; rintro e w' ⟨rfl, rfl⟩) | (go_at_call 43; refine (HPUT.out).mono ?_; rintro e w' ⟨rfl, hp⟩; have HP := Aside0.mk hp; clear hp))
            go_roundg (m.length - (kk + 1))
            case measure => omega
            case rel =>
              obtain ⟨rv', hU3⟩ := HU.out.put HP.out
              obtain ⟨_, _, hbb⟩ := HP.out
              exact ⟨kk + 1, _, _, rv', cl, by omega, by omega, by go_num, ⟨hU3⟩, ⟨HB0.out.trans hbb⟩, HS2, HF2, hrl2, HROW2⟩
      · have : kk = m.length := by omega
        subst this
        have hfold : m.foldl putStep ([], false, List.replicate (n + 1) 0) = (row, cl, s) := by have := HF.out; rwa [List.take_length] at this
        cases cl with
        | true =>
          have HG : Aside0 (unitL n l m = (row, true)) := ⟨by unfold unitL; rw [hfold]; rfl⟩
          clear hfold HF
          go_wp2
          simp only [Exit.jump]
          go_ret2
          exact ⟨_, by rw [HG.out]; rfl, by rw [HG.out]; exact HU.out.result, HU.out.bel⟩
        | false =>
          have hzl : zeros s ≤ n + 1 := by have := zeros_le s; have := HS.out.len; omega
          have HG : Aside0 (unitL n l m = unitsL l (zeros s + 1) row s) := ⟨by unfold unitL; rw [hfold]; rfl⟩
          clear hfold HF
          go_wp2
          go_step3
          rename_i hK
          refine hK _ _ (HPASS.out (n + 1) _ _ ⟨bt, bs, row, s, rv, HU.out, HS.out, hzl, by omega, HROW.out, ?_, ?_⟩)
          · exact HG.out
          · exact ex_u _ rfl
end Go.Proofs.YtghecdmcghppnaaDoor
