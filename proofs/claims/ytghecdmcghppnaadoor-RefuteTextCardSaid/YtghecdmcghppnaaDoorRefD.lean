/- strings.Lines, and strings.SplitAfterSeq at a separator of one byte: what each hands out, one a round. -/
import Derived.Test.YtghecdmcghppnaaDoorRngA
import Derived.Test.YtghecdmcghppnaaDoorShelf
import Derived.Test.YtghecdmcghppnaaDoorWMore
import Derived.RangeFuncNested
import Derived.RangeFuncBound
import Derived.RangeFuncCalls
import Derived.RangeFuncLeaves
import Derived.Shelf.Abstract
import Derived.Shelf.RegionOpen
import Derived.WalkKit
import Derived.OwnWalkIn
import Derived.TacticsInMore
import Derived.LoopNIn
import Derived.LoopIn
import Derived.RegionIn
namespace Go.Proofs.YtghecdmcghppnaaDoor
open Go.RowKit Go.Shelf Go.Proofs.YtghecdmcghppnaaDoorW.PrintWords
set_option linter.unusedVariables false
set_option linter.unusedSimpArgs false
/-- A text cut behind each separator (the last piece may be empty). -/
def afterOn (c : UInt8) : List UInt8 → List (List UInt8)
  | [] => [[]]
  | b :: t => if b = c then [b] :: afterOn c t else match afterOn c t with
    | p :: r => (b :: p) :: r
    | [] => [[b]]
/-- A text's lines, each with its end (the last may have none). -/
def linesOn : List UInt8 → List (List UInt8)
  | [] => []
  | b :: t => if b = 10 then [b] :: linesOn t else match linesOn t with
    | p :: r => (b :: p) :: r
    | [] => [[b]]
theorem idx_after (c : UInt8) : ∀ l : List UInt8, (Lib.indexByte l c = -1 ∧ afterOn c l = [l]) ∨ ∃ p t, Lib.indexByte l c = (p.length : Int) ∧ l = p ++ c :: t ∧ afterOn c l = (p ++ [c]) :: afterOn c t
  | [] => .inl ⟨rfl, rfl⟩
  | b :: l => by
    by_cases hb : b = c
    · subst hb
      refine .inr ⟨[], l, by simp [Lib.indexByte], rfl, ?_⟩
      simp [afterOn]
    · rcases idx_after c l with ⟨h1, h2⟩ | ⟨p, t, h1, h2, h3⟩
      · refine .inl ⟨by simp [Lib.indexByte, hb, h1], ?_⟩
        simp [afterOn, hb, h2]
      · refine .inr ⟨b :: p, t, ?_, by rw [h2]; rfl, ?_⟩
        · have : ¬ ((p.length : Int) = -1) := by omega
          simp [Lib.indexByte, hb, h1, this]
        · simp [afterOn, hb, h3]
theorem idx_lines : ∀ l : List UInt8, l ≠ [] → (Lib.indexByte l 10 = -1 ∧ linesOn l = [l]) ∨ ∃ p t, Lib.indexByte l 10 = (p.length : Int) ∧ l = p ++ 10 :: t ∧ linesOn l = (p ++ [10]) :: linesOn t
  | [], h => absurd rfl h
  | b :: l, _ => by
    by_cases hb : b = 10
    · subst hb
      refine .inr ⟨[], l, by simp [Lib.indexByte], rfl, ?_⟩
      simp [linesOn]
    · by_cases hl : l = []
      · subst hl
        exact .inl ⟨by simp [Lib.indexByte, hb], by simp [linesOn, hb]⟩
      · rcases idx_lines l hl with ⟨h1, h2⟩ | ⟨p, t, h1, h2, h3⟩
        · refine .inl ⟨by simp [Lib.indexByte, hb, h1], ?_⟩
          simp [linesOn, hb, h2]
        · refine .inr ⟨b :: p, t, ?_, by rw [h2]; rfl, ?_⟩
          · have : ¬ ((p.length : Int) = -1) := by omega
            simp [Lib.indexByte, hb, h1, this]
          · simp [linesOn, hb, h3]
/-- How much the iterator's box still holds. -/
def leftS (lo : Nat) (W : World) : Nat := match W.cell? ⟨lo, 0, none⟩ with
  | some (.string r) => r.size
  | _ => 0
theorem leftS_eq {lo : Nat} {W : World} {t : TypeId} {r : ByteArray} (h : Boxed W lo t (.string r)) : leftS lo W = r.size := by
  unfold leftS
  rw [h.cell]
theorem Boxed.inn {lo z b : Nat} {A B : World} {t : TypeId} {v : Value} (h : Boxed A b t v) (k : Inn lo (lo + z) A B) (h1 : lo ≤ b) (h2 : b < lo + z) : Boxed B b t v := (k.same b h1 h2).trans h
section
attribute [local go_sem] Oper.semAt_some
set_option maxRecDepth 100000 in
set_option maxHeartbeats 4000000 in
theorem after_iter (n : Nat) (hn : 1 ≤ n) (c : UInt8) (s : ByteArray) (hs : s.size ≤ 4294967280) (xs : List ByteArray) (hxs : xs.map (·.data.toList) = afterOn c s.data.toList) (lo l : Nat) (W : World)
    (b0 : Boxed W lo 9 (.string s)) (b1 : Boxed W (lo + 1) 9 (.string ⟨#[c]⟩)) (b2 : Boxed W (lo + 2) 3 (.int .i64 1)) :
    Iter Fence.wide n Tryd.prog 71 #[.pointer (some ⟨lo + 1, 0, none⟩), .pointer (some ⟨lo, 0, none⟩), .pointer (some ⟨lo + 2, 0, none⟩)] lo 3 Value.string xs l W := by
  intro J Jx hJ hY h0
  show CallsIn Fence.wide n Tryd.prog 71 #[.func (.yield l) #[] #[], .pointer (some ⟨lo + 1, 0, none⟩), .pointer (some ⟨lo, 0, none⟩), .pointer (some ⟨lo + 2, 0, none⟩)] W _
  refine callsIn_of_wp Tryd.func71 rfl trivial ?_ rfl
  simp only [Tryd.ntmps71, List.size_toArray, List.length_cons, List.length_nil, Nat.reduceAdd, Nat.reduceSub, Array.replicate_succ, Array.replicate_zero, List.push_toArray, List.append_toArray, List.nil_append, List.cons_append]
  have c1 := b1.cell
  have z1 : (⟨#[c]⟩ : ByteArray).size = 1 := rfl
  gi_wp2
  gi_loopw [7, 8] (fun v7 v8 wr => ∃ (i : Nat) (rest : ByteArray), Boxed wr lo 9 (.string rest) ∧ Boxed wr (lo + 1) 9 (.string ⟨#[c]⟩) ∧ Boxed wr (lo + 2) 3 (.int .i64 1) ∧ rest.size ≤ 4294967280 ∧ (xs.drop i).map (·.data.toList) = afterOn c rest.data.toList ∧ J i wr)
    (fun v7 v8 wr => leftS lo wr)
  case atStart => exact ⟨0, s, b0, b1, b2, hs, hxs, h0⟩
  case round =>
    obtain ⟨i, rest, B0, B1, B2, hr, hx, hj⟩ := hrel
    have d0 := B0.cell
    have d1 := B1.cell
    have d2 := B2.cell
    rcases idx_after c rest.data.toList with ⟨hi, hsp⟩ | ⟨p, t, hi, hd, hsp⟩
    · rw [hsp] at hx
      obtain ⟨hl1, hl2⟩ : xs[i]? = some rest ∧ xs.length = i + 1 := by
        have h1 := congrArg List.length hx
        simp at h1
        have hlt : i < xs.length := by omega
        rw [List.drop_eq_getElem_cons hlt] at hx
        simp only [List.map_cons, List.cons.injEq] at hx
        refine ⟨?_, by omega⟩
        rw [List.getElem?_eq_getElem hlt]
        congr 1
        apply ByteArray.ext
        apply Array.ext'
        exact hx.1
      obtain ⟨fn, tmps, assign, body, hy, hR⟩ := hY i rest wr hj hl1
      gi_wp2_with (refine ⟨trivial, ?_⟩; gi_at_call 73; refine (callsIn_wide.2 (Tryd.strings_Index_one rest c wr)).mono ?_; rintro e w' ⟨rfl, rfl⟩; rw [hi])
      refine hR.mono ?_
      rintro e W3 (⟨rfl, hJ3, hk3⟩ | ⟨rfl, hJx3⟩)
      · gi_wp2
        go_end0
        exact ⟨⟨_, rfl⟩, .inl (by rw [hl2]; exact hJ3)⟩
      · gi_wp2
        go_end0
        exact ⟨⟨_, rfl⟩, .inr hJx3⟩
    · rw [hsp] at hx
      obtain ⟨x, hl1, hxd, hx2⟩ : ∃ x, xs[i]? = some x ∧ x.data.toList = p ++ [c] ∧ (xs.drop (i + 1)).map (·.data.toList) = afterOn c t := by
        have hlt : i < xs.length := by
          rcases Nat.lt_or_ge i xs.length with h | h
          · exact h
          · rw [List.drop_eq_nil_of_le h] at hx
            cases hx
        rw [List.drop_eq_getElem_cons hlt] at hx
        simp only [List.map_cons, List.cons.injEq] at hx
        exact ⟨xs[i], List.getElem?_eq_getElem hlt, hx.1, hx.2⟩
      have hrs : rest.size = p.length + 1 + t.length := by
        rw [Lib.size_eq, hd]
        simp
        omega
      have hex : rest.extract 0 (p.length + 1) = x := by
        apply ByteArray.ext
        apply Array.ext'
        rw [hxd, ByteArray.data_extract, Array.toList_extract, hd, List.extract_eq_take_drop, List.drop_zero, Nat.sub_zero, show p ++ c :: t = (p ++ [c]) ++ t by simp, show p.length + 1 = (p ++ [c]).length by simp, List.take_left]
      obtain ⟨u, hu, hud⟩ : ∃ u : ByteArray, rest.extract (p.length + 1) rest.size = u ∧ u.data.toList = t := by
        refine ⟨_, rfl, ?_⟩
        simp [ByteArray.data_extract, hd]
        rw [hrs]
        simp
      obtain ⟨fn, tmps, assign, body, hy, hR⟩ := hY i x wr hj hl1
      have q1 : ((p.length : Int) < 0) = False := by simp
      have q2 : (p.length : Int) ≤ (rest.size : Int) := by omega
      have q3 : ((p.length : Int) + 1) ≤ (rest.size : Int) := by omega
      gi_wp2_with (refine ⟨trivial, ?_⟩; gi_at_call 73; refine (callsIn_wide.2 (Tryd.strings_Index_one rest c wr)).mono ?_; rintro e w' ⟨rfl, rfl⟩; rw [hi])
      refine hR.mono ?_
      rintro e W3 (⟨rfl, hJ3, hk3⟩ | ⟨rfl, hJx3⟩)
      · have E0 := Boxed.inn B0 hk3 (Nat.le_refl _) (by omega)
        have E1 := Boxed.inn B1 hk3 (by omega) (by omega)
        have E2 := Boxed.inn B2 hk3 (by omega) (by omega)
        have f0 := E0.cell
        have f1 := E1.cell
        have f2 := E2.cell
        have f3 := E0.frozen
        gi_wp2
        rw [← hrs, hu]
        refine ⟨⟨i + 1, u, E0.set _, E1.other (by omega) _, E2.other (by omega) _, ?_, ?_, ?_⟩, ?_⟩
        · rw [Lib.size_eq, hud]
          omega
        · rw [hud]
          exact hx2
        · exact hJ _ _ _ hJ3 ⟨rfl, rfl, rfl, by simp, fun k _ hk => Below.heap_setCell _ _ _ k (by simp only []; omega)⟩
        · rw [leftS_eq (E0.set (.string u)), leftS_eq B0, Lib.size_eq u, hud]
          omega
      · gi_wp2
        refine bodyPost_ret (results_none rfl _ _ _) rfl ?_
        exact ⟨⟨_, rfl⟩, .inr hJx3⟩
end
section
attribute [local go_sem] Oper.semAt_some
theorem cut_head {xs : List ByteArray} {i : Nat} {p : List UInt8} {r : List (List UInt8)} (hx : (xs.drop i).map (·.data.toList) = p :: r) : ∃ x, xs[i]? = some x ∧ x.data.toList = p ∧ (xs.drop (i + 1)).map (·.data.toList) = r := by
  have hlt : i < xs.length := by
    rcases Nat.lt_or_ge i xs.length with h | h
    · exact h
    · rw [List.drop_eq_nil_of_le h] at hx
      cases hx
  rw [List.drop_eq_getElem_cons hlt] at hx
  simp only [List.map_cons, List.cons.injEq] at hx
  exact ⟨xs[i], List.getElem?_eq_getElem hlt, hx.1, hx.2⟩
set_option maxRecDepth 100000 in
set_option maxHeartbeats 4000000 in
theorem lines_iter (n : Nat) (hn : 1 ≤ n) (s : ByteArray) (hs : s.size ≤ 4294967280) (xs : List ByteArray) (hxs : xs.map (·.data.toList) = linesOn s.data.toList) (lo l : Nat) (W : World)
    (b0 : Boxed W lo 9 (.string s)) :
    Iter Fence.wide n Tryd.prog 52 #[.pointer (some ⟨lo, 0, none⟩)] lo 1 Value.string xs l W := by
  intro J Jx hJ hY h0
  show CallsIn Fence.wide n Tryd.prog 52 #[.func (.yield l) #[] #[], .pointer (some ⟨lo, 0, none⟩)] W _
  refine callsIn_of_wp Tryd.func52 rfl trivial ?_ rfl
  simp only [Tryd.ntmps52, List.size_toArray, List.length_cons, List.length_nil, Nat.reduceAdd, Nat.reduceSub, Array.replicate_succ, Array.replicate_zero, List.push_toArray, List.append_toArray, List.nil_append, List.cons_append]
  gi_wp2
  gi_loopw [3, 4] (fun v3 v4 wr => ∃ (i : Nat) (rest : ByteArray), i ≤ xs.length ∧ Boxed wr lo 9 (.string rest) ∧ rest.size ≤ 4294967280 ∧ (xs.drop i).map (·.data.toList) = linesOn rest.data.toList ∧ J i wr)
    (fun v3 v4 wr => leftS lo wr)
  case atStart => exact ⟨0, s, Nat.zero_le _, b0, hs, hxs, h0⟩
  case round =>
    obtain ⟨i, rest, hil, B0, hr, hx, hj⟩ := hrel
    have d0 := B0.cell
    have g0 := B0.frozen
    by_cases he : rest.data.toList = []
    · rw [he] at hx
      have hil2 : i = xs.length := by
        have h1 := congrArg List.length hx
        simp [linesOn] at h1
        omega
      have hz : rest.size = 0 := by rw [Lib.size_eq, he]; rfl
      subst hil2
      have HJ := Aside0.mk hj
      clear hj hx he
      gi_wp2
      go_end0
      exact ⟨⟨_, rfl⟩, .inl HJ.out⟩
    · have hz : 0 < rest.size := by rw [Lib.size_eq]; exact List.length_pos_iff.2 he
      rcases idx_lines rest.data.toList he with ⟨hi, hsp⟩ | ⟨p, t, hi, hd, hsp⟩
      · rw [hsp] at hx
        obtain ⟨x, hl1, hxd, hx2⟩ := cut_head hx
        obtain rfl : x = rest := ByteArray.ext (Array.ext' hxd)
        have hj2 : J i (wr.setCell ⟨lo, 0, none⟩ (.string ⟨#[]⟩)) := hJ _ _ _ hj ⟨rfl, rfl, rfl, by simp, fun k _ hk => Below.heap_setCell _ _ _ k (by simp only []; omega)⟩
        have hlt : i < xs.length := (List.getElem?_eq_some_iff.1 hl1).1
        obtain ⟨fn, tmps, assign, body, hy, hR⟩ := hY i x _ hj2 hl1
        have E0 := B0.set (.string ⟨#[]⟩)
        have HR := Aside0.mk hR
        have HX2 := Aside0.mk hx2
        clear hj hj2 hx hx2 hR hxd
        gi_wp2_with (refine ⟨trivial, ?_⟩; gi_at_call 53; refine (callsIn_wide.2 (Tryd.strings_IndexByte x 10 wr)).mono ?_; rintro e w' ⟨rfl, rfl⟩; rw [show ((10 : Int).toNat.toUInt8) = 10 from rfl, hi])
        refine (HR.out).mono ?_
        rintro e W3 (⟨rfl, hJ3, hk3⟩ | ⟨rfl, hJx3⟩)
        · have F0 := Boxed.inn E0 hk3 (Nat.le_refl _) (by omega)
          gi_wp2
          refine ⟨⟨i + 1, ⟨#[]⟩, by omega, F0, by decide, ?_, hJ3⟩, ?_⟩
          · rw [HX2.out]
            rfl
          · rw [leftS_eq F0, leftS_eq B0]
            exact hz
        · gi_wp2
          refine bodyPost_ret (results_none rfl _ _ _) rfl ?_
          exact ⟨⟨_, rfl⟩, .inr hJx3⟩
      · rw [hsp] at hx
        obtain ⟨x, hl1, hxd, hx2⟩ := cut_head hx
        have hrs : rest.size = p.length + 1 + t.length := by
          rw [Lib.size_eq, hd]
          simp
          omega
        have hex : rest.extract 0 (p.length + 1) = x := by
          apply ByteArray.ext
          apply Array.ext'
          rw [hxd, ByteArray.data_extract, Array.toList_extract, hd, List.extract_eq_take_drop, List.drop_zero, Nat.sub_zero, show p ++ 10 :: t = (p ++ [10]) ++ t by simp, show p.length + 1 = (p ++ [10]).length by simp, List.take_left]
        obtain ⟨u, hu, hud⟩ : ∃ u : ByteArray, rest.extract (p.length + 1) rest.size = u ∧ u.data.toList = t := by
          refine ⟨_, rfl, ?_⟩
          simp [ByteArray.data_extract, hd]
          rw [hrs]
          simp
        have hlt : i < xs.length := (List.getElem?_eq_some_iff.1 hl1).1
        have q1 : ((p.length : Int) ≥ 0) = True := by simp
        have q2 : (p.length : Int) ≤ (rest.size : Int) := by omega
        have q3 : ((p.length : Int) + 1) ≤ (rest.size : Int) := by omega
        gi_wp2_with (refine ⟨trivial, ?_⟩; gi_at_call 53; refine (callsIn_wide.2 (Tryd.strings_IndexByte rest 10 wr)).mono ?_; rintro e w' ⟨rfl, rfl⟩; rw [show ((10 : Int).toNat.toUInt8) = 10 from rfl, hi])
        gi_region
        rw [← hrs, hu]
        have hj2 : J i ((w'.setCell ⟨lo, 0, none⟩ (.string u)).drew) := hJ _ _ _ hj ⟨rfl, rfl, rfl, by simp, fun k _ hk => Below.heap_setCell _ _ _ k (by simp only []; omega)⟩
        obtain ⟨fn, tmps, assign, body, hy, hR⟩ := hY i x _ hj2 hl1
        have E0 : Boxed ((w'.setCell ⟨lo, 0, none⟩ (.string u)).drew) lo 9 (.string u) := B0.set (.string u)
        have HR := Aside0.mk hR
        have HX2 := Aside0.mk hx2
        have HUD := Aside0.mk hud
        clear hj hj2 hx hx2 hR hxd hu hud hex hsp hd hi q1
        gi_wp2
        refine (HR.out).mono ?_
        rintro e W3 (⟨rfl, hJ3, hk3⟩ | ⟨rfl, hJx3⟩)
        · have F0 := Boxed.inn E0 hk3 (Nat.le_refl _) (by omega)
          have hus : u.size = t.length := by rw [Lib.size_eq, HUD.out]
          gi_wp2
          refine ⟨⟨i + 1, u, by omega, F0, by omega, ?_, hJ3⟩, ?_⟩
          · rw [HX2.out, HUD.out]
          · rw [leftS_eq F0, leftS_eq B0]
            omega
        · gi_wp2
          refine bodyPost_ret (results_none rfl _ _ _) rfl ?_
          exact ⟨⟨_, rfl⟩, .inr hJx3⟩
end
theorem splitSeq_calls (s sep : ByteArray) (n : Int) (w : World) : Calls Tryd.prog 55 #[.string s, .string sep, .int .i64 n] w fun e w' =>
    e = .returned (.func (.func 71) #[] #[.pointer (some ⟨w.heap.size + 1, 0, none⟩), .pointer (some ⟨w.heap.size, 0, none⟩), .pointer (some ⟨w.heap.size + 2, 0, none⟩)]) ∧
      w' = ((w.alloc (.cells #[.string s] 9)).alloc (.cells #[.string sep] 9)).alloc (.cells #[.int .i64 n] 3) := by
  go_enter Tryd.func55, Tryd.ntmps55
  go_wp2
  go_ret
  exact ⟨by simp, rfl⟩
theorem SplitAfterSeq_calls (s : ByteArray) (w : World) : Calls Tryd.prog 35 #[.string s, .string ⟨#[32]⟩] w fun e w' =>
    e = .returned (.func (.func 71) #[] #[.pointer (some ⟨w.heap.size + 1, 0, none⟩), .pointer (some ⟨w.heap.size, 0, none⟩), .pointer (some ⟨w.heap.size + 2, 0, none⟩)]) ∧
      w' = ((w.alloc (.cells #[.string s] 9)).alloc (.cells #[.string ⟨#[32]⟩] 9)).alloc (.cells #[.int .i64 1] 3) := by
  have z1 : (⟨#[32]⟩ : ByteArray).size = 1 := rfl
  go_enter Tryd.func35, Tryd.ntmps35
  go_wp2_with (go_at_call 55; refine (splitSeq_calls s _ _ w).mono ?_; rintro e w' ⟨rfl, rfl⟩)
  go_ret
  exact ⟨rfl, rfl⟩
theorem Lines_calls (s : ByteArray) (w : World) : Calls Tryd.prog 33 #[.string s] w fun e w' =>
    e = .returned (.func (.func 52) #[] #[.pointer (some ⟨w.heap.size, 0, none⟩)]) ∧ w' = w.alloc (.cells #[.string s] 9) := by
  go_enter Tryd.func33, Tryd.ntmps33
  go_wp2
  go_ret
  exact ⟨rfl, rfl⟩
end Go.Proofs.YtghecdmcghppnaaDoor
