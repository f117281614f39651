/- cnf's trail: put and open: what each does to the memory behind it. -/
import Derived.Test.YtghecdmcghppnaaDoorCnfC
import Derived.StillTailTactics
import Derived.OneCell
namespace Go.Proofs.YtghecdmcghppnaaDoor
open Go.RowKit Go.Proofs.YtghecdmcghppnaaDoorW.PrintWords Go.Proofs.YtghecdmcghppnaaDoorW.PrintMore
set_option linter.unusedVariables false
set_option linter.unusedSimpArgs false
structure TrailAt (w : World) (bt bs n : Nat) (row : List Int) (cl : Bool) (s : List Int) (rv : Value) : Prop where
  tb : w.heap[bt]? = some (.cells #[rv, .slice (some ⟨bs, 0, none⟩) (n + 1) (n + 1), .bool cl] 75 (0, 0))
  sb : w.heap[bs]? = some (.cells (s.map (Value.int .i64)).toArray 3 (0, 0))
  sl : s.length = n + 1
  own : w.ownsRow (bt + 1) 3 1 rv row.length (row.map (Value.int .i64))
  lt : bs < bt
theorem TrailAt.below {w w' : World} {bt bs n : Nat} {row : List Int} {cl : Bool} {s : List Int} {rv : Value} (h : TrailAt w bt bs n row cl s rv) (hb : Below w.heap.size w w') : TrailAt w' bt bs n row cl s rv :=
  ⟨(hb.block _ (lt_of_block h.tb)).trans h.tb, (hb.block _ (lt_of_block h.sb)).trans h.sb, h.sl, pw_own_below h.own hb, h.lt⟩
theorem TrailAt.cells {w : World} {bt bs n : Nat} {row : List Int} {cl : Bool} {s : List Int} {rv : Value} (h : TrailAt w bt bs n row cl s rv) :
    w.cell? ⟨bt, 0, none⟩ = some rv ∧ w.cell? ⟨bt, 1, none⟩ = some (.slice (some ⟨bs, 0, none⟩) (n + 1) (n + 1)) ∧ w.cell? ⟨bt, 2, none⟩ = some (.bool cl) ∧ ∀ j, j < n + 1 → w.cell? ⟨bs, j, none⟩ = some (.int .i64 (s.getD j 0)) := by
  refine ⟨by simp [World.cell?, h.tb], by simp [World.cell?, h.tb], by simp [World.cell?, h.tb], fun j hj => ?_⟩
  have := h.sl
  simp [World.cell?, h.sb, List.getD, show j < s.length by omega]
theorem TrailAt.free {w : World} {bt bs n : Nat} {row : List Int} {cl : Bool} {s : List Int} {rv : Value} (h : TrailAt w bt bs n row cl s rv) :
    w.frozen? ⟨bt, 0, none⟩ = false ∧ w.frozen? ⟨bt, 1, none⟩ = false ∧ w.frozen? ⟨bt, 2, none⟩ = false ∧ ∀ j, w.frozen? ⟨bs, j, none⟩ = false := by
  refine ⟨by simp [World.frozen?, h.tb], by simp [World.frozen?, h.tb], by simp [World.frozen?, h.tb], fun j => by simp [World.frozen?, h.sb]⟩
/-- What of a clause is open: a literal that is left (0: none), and whether one holds or several are left. -/
def openL (s : Nat → Int) : List Int → Int → Bool → Int × Bool
  | [], x, h => (x, h)
  | y :: c, x, h => if s y.natAbs = y then (0, true) else if s y.natAbs = -y then openL s c x h else if x ≠ 0 ∧ x ≠ y then openL s c x true else openL s c y h
theorem getD_drop (l : List Int) (k : Nat) (h : k < l.length) : l.drop k = l.getD k 0 :: l.drop (k + 1) := by
  rw [List.drop_eq_getElem_cons h]
  simp [h]
set_option maxHeartbeats 4000000 in
theorem cnf_open_any (bt bs n : Nat) (row : List Int) (cl : Bool) (s : List Int) (rv : Value) (A : Option Addr) (cc : Nat) (l : List Int) (w : World) (hn : n ≤ 100000) (hT : TrailAt w bt bs n row cl s rv) (hr : Kd.C (Kd.int .i64) w A l.length l) (hl : ∀ y ∈ l, y ≠ 0 ∧ y.natAbs ≤ n) :
    Calls Tryd.prog 44 #[.pointer (some ⟨bt, 0, none⟩), .slice A l.length cc] w fun e w' => e = .returned (.tuple #[.int .i64 (openL (s.getD · 0) l 0 false).1, .bool (openL (s.getD · 0) l 0 false).2]) ∧ Drawn0 w w' := by
  have HR := Aside0.mk (rowPlaces_ints hr)
  have hlen : l.length ≤ 9223372036854775807 := hr.2.1
  have HT := Aside0.mk hT
  have HL := Aside0.mk hl
  clear hr hT hl
  go_enter Tryd.func44, Tryd.ntmps44
  go_wp2
  go_loopg [4, 5, 10] l.length (fun gg s4 s5 s10 wr => ∃ (kk : Nat) (x : Int) (h : Bool), kk ≤ l.length ∧ l.length - kk ≤ gg ∧ s10 = .int .i64 kk ∧ s4 = .int .i64 x ∧ s5 = .bool h ∧ Aside0 (Drawn0 w wr) ∧ Aside0 (openL (s.getD · 0) l 0 false = openL (s.getD · 0) (l.drop kk) x h))
  case atStart => exact ⟨0, 0, false, Nat.zero_le _, by omega, rfl, rfl, rfl, ⟨Drawn0.refl _⟩, ⟨rfl⟩⟩
  case round =>
    obtain ⟨kk, x, h, hkk, hg, rfl, rfl, rfl, HD, HE⟩ := hrel
    by_cases hlt : kk < l.length
    · obtain ⟨ad, rfl, hc⟩ := HR.out (by omega)
      have hb := HD.out.below
      have hcell : wr.cell? (ad.add kk) = some (.int .i64 (l.getD kk 0)) := pw_cell_below hb (hc kk hlt)
      obtain ⟨_, hc1, _, hcs⟩ := (HT.out.below hb).cells
      obtain ⟨hy0, hy1⟩ := HL.out (l.getD kk 0) (by simp [hlt])
      have hE : openL (s.getD · 0) (l.drop kk) x h = openL (s.getD · 0) (l.getD kk 0 :: l.drop (kk + 1)) x h := by rw [getD_drop l kk hlt]
      have HE2 := Aside0.mk (HE.out.trans hE)
      clear hc hb hE HE
      generalize l.getD kk 0 = y at *
      have hsz := fun W => cnf_size_any y (by omega) (by omega) W
      have HSZ := Aside0.mk hsz
      have hcs' := hcs y.natAbs (by omega)
      have hq1 : (y.natAbs : Int) < ((n + 1 : Nat) : Int) := by omega
      have hyb1 : -100000 ≤ y := by omega
      have hyb2 : y ≤ 100000 := by omega
      clear hcs hsz
      generalize hv : s.getD y.natAbs 0 = v at *
      have HV := Aside0.mk hv
      clear hv
      have hy0' := Aside0.mk hy0
      generalize hq : y.natAbs = q at *
      have HQ := Aside0.mk hq
      clear hq hy0
      by_cases c1 : v = y
      · have b1 : (v == y) = true := by simp [c1]
        have HF : Aside0 (openL (s.getD · 0) l 0 false = (0, true)) := ⟨by rw [HE2.out]; simp [openL, HQ.out]; intro h; exact absurd (HV.out.trans c1) h⟩
        clear c1
        go_wp2
        go_quiet ((go_at_call 63; exact Calls.quiet_of_same (HSZ.out _)))
        go_wp2
        go_ret2
        exact ⟨by rw [HF.out]; rfl, HD.out.step _⟩
      · have b1 : (v == y) = false := by simp [c1]
        by_cases c2 : v = -y
        · have b2 : (v == -y) = true := by simp [c2]
          have HF : Aside0 (openL (s.getD · 0) l 0 false = openL (s.getD · 0) (l.drop (kk + 1)) x h) := ⟨by rw [HE2.out]; simp only [openL, HQ.out]; rw [if_neg (by rw [HV.out]; exact c1), if_pos (HV.out.trans c2)]⟩
          clear c1 c2
          go_wp2
          go_quiet ((go_at_call 63; exact Calls.quiet_of_same (HSZ.out _)))
          go_wp2
          go_roundg (l.length - (kk + 1))
          case measure => omega
          case rel => exact ⟨kk + 1, x, h, by omega, by omega, by go_num, rfl, rfl, ⟨HD.out.step _⟩, HF⟩
        · have b2 : (v == -y) = false := by simp [c2]
          have HG : Aside0 (openL (s.getD · 0) l 0 false = if x ≠ 0 ∧ x ≠ y then openL (s.getD · 0) (l.drop (kk + 1)) x true else openL (s.getD · 0) (l.drop (kk + 1)) y h) := ⟨by rw [HE2.out]; simp only [openL, HQ.out]; rw [if_neg (by rw [HV.out]; exact c1), if_neg (by rw [HV.out]; exact c2)]⟩
          clear c1 c2
          by_cases c3 : x = 0
          · have b3 : (x != 0) = false := by simp [c3]
            have HF : Aside0 (openL (s.getD · 0) l 0 false = openL (s.getD · 0) (l.drop (kk + 1)) y h) := ⟨by rw [HG.out, if_neg (by simp [c3])]⟩
            clear c3 HG
            go_wp2
            go_quiet ((go_at_call 63; exact Calls.quiet_of_same (HSZ.out _)))
            go_wp2
            go_roundg (l.length - (kk + 1))
            case measure => omega
            case rel => exact ⟨kk + 1, y, h, by omega, by omega, by go_num, rfl, rfl, ⟨HD.out.step _⟩, HF⟩
          · have b3 : (x != 0) = true := by simp [c3]
            by_cases c4 : x = y
            · have b4 : (x != y) = false := by simp [c4]
              have HF : Aside0 (openL (s.getD · 0) l 0 false = openL (s.getD · 0) (l.drop (kk + 1)) y h) := ⟨by rw [HG.out, if_neg (by simp [c4])]⟩
              clear c3 c4 HG
              go_wp2
              go_quiet ((go_at_call 63; exact Calls.quiet_of_same (HSZ.out _)))
              go_wp2
              go_roundg (l.length - (kk + 1))
              case measure => omega
              case rel => exact ⟨kk + 1, y, h, by omega, by omega, by go_num, rfl, rfl, ⟨HD.out.step _⟩, HF⟩
            · have b4 : (x != y) = true := by simp [c4]
              have HF : Aside0 (openL (s.getD · 0) l 0 false = openL (s.getD · 0) (l.drop (kk + 1)) x true) := ⟨by rw [HG.out, if_pos ⟨c3, c4⟩]⟩
              clear c3 c4 HG
              go_wp2
              go_quiet ((go_at_call 63; exact Calls.quiet_of_same (HSZ.out _)))
              go_wp2
              go_roundg (l.length - (kk + 1))
              case measure => omega
              case rel => exact ⟨kk + 1, x, true, by omega, by omega, by go_num, rfl, rfl, ⟨HD.out.step _⟩, HF⟩
    · have : kk = l.length := by omega
      subst this
      have HF : Aside0 (openL (s.getD · 0) l 0 false = (x, h)) := ⟨by rw [HE.out, List.drop_length]; rfl⟩
      clear HE
      go_wp2
      go_ret2
      exact ⟨by rw [show openL (fun x => s[x]?.getD 0) l 0 false = (x, h) from HF.out]; rfl, HD.out⟩
theorem TrailAt.setClash {w : World} {bt bs n : Nat} {row : List Int} {cl : Bool} {s : List Int} {rv : Value} (h : TrailAt w bt bs n row cl s rv) : TrailAt (w.setCell ⟨bt, 2, none⟩ (.bool true)) bt bs n row true s rv := by
  refine ⟨?_, (blk_far h.sb (p := ⟨bt, 2, none⟩) (Nat.ne_of_lt h.lt) _), h.sl, own_move h.own (fun k hk => Below.heap_setCell _ _ _ _ ?_), h.lt⟩
  · rw [heap_setCell_same _ _ _ _ _ _ h.tb]
    rfl
  · have := own_base h.own k hk
    show k ≠ bt
    omega
theorem TrailAt.setS {w : World} {bt bs n : Nat} {row : List Int} {cl : Bool} {s : List Int} {rv : Value} (h : TrailAt w bt bs n row cl s rv) (j : Nat) (v : Int) : TrailAt (w.setCell ⟨bs, j, none⟩ (.int .i64 v)) bt bs n row cl (s.set j v) rv := by
  refine ⟨(blk_far h.tb (p := ⟨bs, j, none⟩) (Nat.ne_of_gt h.lt) _), ?_, by rw [List.length_set]; exact h.sl, own_move h.own (fun k hk => Below.heap_setCell _ _ _ _ ?_), h.lt⟩
  · rw [heap_setCell_same _ _ _ _ _ _ h.sb]
    congr 2
    apply Array.ext'
    simp [List.map_set]
  · have := own_base h.own k hk
    have := h.lt
    show k ≠ bs
    omega
theorem TrailAt.pushed {w w2 : World} {bt bs n : Nat} {row : List Int} {cl : Bool} {s : List Int} {rv v' : Value} {x : Int} (h : TrailAt w bt bs n row cl s rv) (ho : w2.ownsRow (bt + 1) 3 1 v' (row.length + 1) (row.map (Value.int .i64) ++ [.int .i64 x])) (hg : w.grownBy w2 rv.ownBlock) :
    TrailAt (w2.setCell ⟨bt, 0, none⟩ v') bt bs n (row ++ [x]) cl s v' := by
  have hbt : w2.heap[bt]? = some (.cells #[rv, .slice (some ⟨bs, 0, none⟩) (n + 1) (n + 1), .bool cl] 75 (0, 0)) := (hg.block bt (lt_of_block h.tb) (fun e => by have := own_base h.own bt e.symm; omega)).trans h.tb
  have hbs : w2.heap[bs]? = some (.cells (s.map (Value.int .i64)).toArray 3 (0, 0)) := (hg.block bs (lt_of_block h.sb) (fun e => by have := own_base h.own bs e.symm; have := h.lt; omega)).trans h.sb
  refine ⟨?_, (blk_far hbs (p := ⟨bt, 0, none⟩) (Nat.ne_of_lt h.lt) _), h.sl, own_move (by simpa using ho) (fun k hk => Below.heap_setCell _ _ _ _ ?_), h.lt⟩
  · rw [heap_setCell_same _ _ _ _ _ _ hbt]
    rfl
  · have := own_base ho k hk
    show k ≠ bt
    omega
def PutPost (bt bs n : Nat) (row : List Int) (cl : Bool) (s : List Int) (w w' : World) : Prop := ∃ rv', TrailAt w' bt bs n row cl s rv' ∧ Below bs w w'
theorem info_int : (Tryd.prog.info? 3).map (fun i => (i.zero, i.size, i.bytes)) = some (some (.int .i64 0), 1, 8) := by kernel_rfl
theorem below_of_drawn {B : Nat} {w : World} (n : Nat) : Below B w (w.drewN n) := ⟨rfl, rfl, rfl, Nat.le_refl _, fun _ _ => rfl⟩
theorem TrailAt.alloc {w : World} {bt bs n : Nat} {row : List Int} {cl : Bool} {s : List Int} {rv : Value} (h : TrailAt w bt bs n row cl s rv) (o : Obj) : TrailAt (w.alloc o) bt bs n row cl s rv := h.below ((Below.refl _ _).alloc (Nat.le_refl _) _)
theorem grown_trail {w w2 : World} {bt bs n : Nat} {row : List Int} {cl : Bool} {s : List Int} {rv : Value} (h : TrailAt w bt bs n row cl s rv) (hg : w.grownBy w2 rv.ownBlock) : w2.cell? ⟨bt, 0, none⟩ = some rv ∧ w2.frozen? ⟨bt, 0, none⟩ = false := by
  have hbt : w2.heap[bt]? = some (.cells #[rv, .slice (some ⟨bs, 0, none⟩) (n + 1) (n + 1), .bool cl] 75 (0, 0)) := (hg.block bt (lt_of_block h.tb) (fun e => by have := own_base h.own bt e.symm; omega)).trans h.tb
  exact ⟨by simp [World.cell?, hbt], by simp [World.frozen?, hbt]⟩
theorem own_slice {w : World} {b e z n : Nat} {v : Value} {xs : List Value} (h : w.ownsRow b e z v (n + 1) xs) : ∃ g cap, v = .slice (some ⟨g, 0, none⟩) (n + 1) cap := by
  rcases h.2 with ⟨_, h0⟩ | ⟨g, cap, cur, rfl, _⟩
  · omega
  · exact ⟨g, cap, rfl⟩
theorem put_c1 (w : World) (x : Int) (t N : Nat) (hN : w.heap.size = N) : ∀ (j : Nat) (u : Value), [Value.int .i64 x][j]? = some u → (w.alloc (Obj.cells #[Value.int .i64 x] t)).cell? ((⟨N, 0, none⟩ : Addr).add j) = some u := by
  subst hN
  intro j u hu
  cases j with
  | zero => simp at hu; subst hu; simp [Addr.add]
  | succ j => simp at hu
theorem put_below {w W w2 : World} {nq B bt bs n : Nat} {row : List Int} {cl : Bool} {s : List Int} {rv v' : Value} {o : Obj} (hb : Below B w W) (hT : TrailAt (W.alloc o) bt bs n row cl s rv) (hg : (W.alloc o).grownBy w2 rv.ownBlock) (hB : B ≤ w.heap.size) (hB2 : B = bs) :
    Below B w (w2.setCell ⟨bt, 0, none⟩ v') := by
  subst hB2
  have h1 : Below B w (W.alloc o) := hb.alloc (Nat.le_trans hB hb.size) o
  have h2 : Below B w w2 := h1.grown hg (Nat.le_trans hB h1.size) (fun k hk => by have := own_base hT.own k hk; have := hT.lt; omega)
  exact h2.setCell (by have := hT.lt; show B ≤ bt; omega) _
set_option maxRecDepth 100000 in
set_option maxHeartbeats 4000000 in
theorem cnf_put_clash (bt bs n : Nat) (row : List Int) (cl : Bool) (s : List Int) (rv : Value) (x : Int) (w : World) (hn : n ≤ 100000) (hT : TrailAt w bt bs n row cl s rv) (hx : x ≠ 0) (hx1 : x.natAbs ≤ n) (hs : s.getD x.natAbs 0 = -x) (hlen : row.length ≤ 1000000000) :
    Calls Tryd.prog 43 #[.pointer (some ⟨bt, 0, none⟩), .int .i64 x] w fun e w' => e = .returned (.tuple #[]) ∧ PutPost bt bs n (row ++ [x]) true s w w' := by
  obtain ⟨i0, hi, hz0, hz1, hz2⟩ := info_parts info_int
  obtain ⟨hc0, hc1, hc2, hcs⟩ := hT.cells
  obtain ⟨hf0, hf1, hf2, _⟩ := hT.free
  have hcs' := hcs x.natAbs (by omega)
  have hlt := hT.lt
  have hT1 : ∀ m, TrailAt ((w.drewN m).setCell ⟨bt, 2, none⟩ (.bool true)) bt bs n row true s rv := fun m => (hT.below (below_of_drawn m)).setClash
  have HT1 := Aside0.mk hT1
  have hsz := fun W => cnf_size_any x (by omega) (by omega) W
  have HSZ := Aside0.mk hsz
  have hxx : ¬ (x = -x) := by omega
  have b1 : ((-x : Int) == x) = false := by rw [beq_eq_false_iff_ne]; omega
  have b2 : ((-x : Int) == -x) = true := by simp
  have hq1 : (x.natAbs : Int) < ((n + 1 : Nat) : Int) := by omega
  have hyb1 : -100000 ≤ x := by omega
  have hyb2 : x ≤ 100000 := by omega
  rw [hs] at hcs'
  have hne1 : ¬ (bs = bt) := by omega
  have hne2 : ¬ (bt = bs) := by omega
  have hbs : bt < w.heap.size := lt_of_block hT.tb
  clear hcs hsz hs hT hT1 hx hxx
  generalize hq : x.natAbs = q at *
  clear hq
  go_enter Tryd.func43, Tryd.ntmps43
  go_wp2
  go_quiet ((go_at_call 63; exact Calls.quiet_of_same (HSZ.out _)))
  go_wp2_with (at_builtin; refine wpList_append_own _ rfl _ _ 40 rfl (bt + 1) 3 i0 (.int .i64 0) 1 8 Tryd.underlying40 hi hz0 hz1 hz2 rfl (by decide) _ _ _ rfl ((HT1.out _).own.alloc _) ⟨w.heap.size, 0, none⟩ 1 1 [.int .i64 x] rfl rfl ?c1 ?c2 ?c3 ?c4 ?c5 ?c6)
  case c1 => exact put_c1 _ _ _ _ (by simp)
  case c2 => intro u hu; rw [List.mem_singleton.1 hu]; rfl
  case c3 => unfold maxLen; omega
  case c4 => omega
  case c5 => simp; omega
  case c6 =>
    intro v' w2 hown2 hgrow2 hnil
    obtain ⟨g, cap, rfl⟩ := own_slice hown2
    have HP := Aside0.mk (TrailAt.pushed ((HT1.out nq).alloc _) hown2 hgrow2)
    have HB := Aside0.mk (put_below (v' := .slice (some ⟨g, 0, none⟩) (row.length + 1) cap) (nq := nq) (Below.setCell (below_of_drawn (B := bs) (w := w) nq) (p := ⟨bt, 2, none⟩) (by show bs ≤ bt; omega) (.bool true)) ((HT1.out nq).alloc _) hgrow2 (by omega) rfl)
    obtain ⟨g0, g1⟩ := grown_trail ((HT1.out nq).alloc _) hgrow2
    clear hown2 hgrow2 hnil
    go_wp2
    go_end0
    exact ⟨rfl, _, HP.out, HB.out⟩
set_option maxRecDepth 100000 in
set_option maxHeartbeats 4000000 in
theorem cnf_put_new (bt bs n : Nat) (row : List Int) (cl : Bool) (s : List Int) (rv : Value) (x : Int) (w : World) (hn : n ≤ 100000) (hT : TrailAt w bt bs n row cl s rv) (hx : x ≠ 0) (hx1 : x.natAbs ≤ n) (hs : s.getD x.natAbs 0 = 0) (hlen : row.length ≤ 1000000000) :
    Calls Tryd.prog 43 #[.pointer (some ⟨bt, 0, none⟩), .int .i64 x] w fun e w' => e = .returned (.tuple #[]) ∧ PutPost bt bs n (row ++ [x]) cl (s.set x.natAbs x) w w' := by
  obtain ⟨i0, hi, hz0, hz1, hz2⟩ := info_parts info_int
  obtain ⟨hc0, hc1, hc2, hcs⟩ := hT.cells
  obtain ⟨hf0, hf1, hf2, hfs⟩ := hT.free
  have hcs' := hcs x.natAbs (by omega)
  have hfs' := hfs x.natAbs
  have hlt := hT.lt
  have hT1 : ∀ W, Below w.heap.size w W → TrailAt (W.setCell ⟨bs, x.natAbs, none⟩ (.int .i64 x)) bt bs n row cl (s.set x.natAbs x) rv := fun W hW => (hT.below hW).setS _ _
  have HT1 := Aside0.mk hT1
  have hsz := fun W => cnf_size_any x (by omega) (by omega) W
  have HSZ := Aside0.mk hsz
  have b1 : ((0 : Int) == x) = false := by rw [beq_eq_false_iff_ne]; omega
  have b2 : ((0 : Int) == -x) = false := by rw [beq_eq_false_iff_ne]; omega
  have hq1 : (x.natAbs : Int) < ((n + 1 : Nat) : Int) := by omega
  have hyb1 : -100000 ≤ x := by omega
  have hyb2 : x ≤ 100000 := by omega
  rw [hs] at hcs'
  have hne1 : ¬ (bs = bt) := by omega
  have hne2 : ¬ (bt = bs) := by omega
  have hbs : bt < w.heap.size := lt_of_block hT.tb
  clear hcs hsz hs hT hT1 hx hfs
  generalize hq : x.natAbs = q at *
  clear hq
  go_enter Tryd.func43, Tryd.ntmps43
  go_wp2
  go_quiet ((go_at_call 63; exact Calls.quiet_of_same (HSZ.out _)))
  go_wp2
  go_region_with (go_at_call 63; refine (HSZ.out _).mono ?_; rintro e w' ⟨rfl, rfl⟩)
  all_goals
    go_wp2_with (at_builtin; refine wpList_append_own _ rfl _ _ 40 rfl (bt + 1) 3 i0 (.int .i64 0) 1 8 Tryd.underlying40 hi hz0 hz1 hz2 rfl (by decide) _ _ _ rfl ((HT1.out _ (below_of_drawn _)).own.alloc _) ⟨w.heap.size, 0, none⟩ 1 1 [.int .i64 x] rfl rfl (put_c1 _ _ _ _ (by simp)) (by intro u hu; rw [List.mem_singleton.1 hu]; rfl) (by unfold maxLen; omega) (by omega) (by simp; omega) ?_)
    intro v' w2 hown2 hgrow2 hnil
    obtain ⟨g, cap, rfl⟩ := own_slice hown2
    have HP := Aside0.mk (TrailAt.pushed ((HT1.out _ (below_of_drawn (nq + 1))).alloc _) hown2 hgrow2)
    have HB := Aside0.mk (put_below (v' := .slice (some ⟨g, 0, none⟩) (row.length + 1) cap) (nq := nq) (Below.setCell (below_of_drawn (B := bs) (w := w) (nq + 1)) (p := ⟨bs, q, none⟩) (by show bs ≤ bs; omega) (.int .i64 x)) ((HT1.out _ (below_of_drawn (nq + 1))).alloc _) hgrow2 (by omega) rfl)
    obtain ⟨g0, g1⟩ := grown_trail ((HT1.out _ (below_of_drawn (nq + 1))).alloc _) hgrow2
    clear hown2 hgrow2 hnil
    go_wp2
    go_end0
    exact ⟨rfl, _, HP.out, HB.out⟩
end Go.Proofs.YtghecdmcghppnaaDoor
