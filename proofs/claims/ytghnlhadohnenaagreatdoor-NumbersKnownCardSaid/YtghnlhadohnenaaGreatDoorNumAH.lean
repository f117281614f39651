/- Numbers: edges: plain lemmas and the walk. -/
import Derived.Test.YtghnlhadohnenaaGreatDoorNumAE
import Derived.Test.YtghnlhadohnenaaGreatDoorNumAG
import Derived.Laws.AppendOwn
import Derived.RowKit3
namespace Go.Proofs.YtghnlhadohnenaaGreatDoor
set_option exponentiation.threshold 3000
open Go.Shelf Go.RowKit Go.Proofs.YtghnlhadohnenaaGreatDoorW.PrintWords Go.Proofs.YtghnlhadohnenaaGreatDoorW.PrintLast Go.Proofs.YtghnlhadohnenaaGreatDoorW.PrintMore
set_option linter.unusedVariables false
set_option linter.unusedSimpArgs false
theorem pos_gt {a : Nat} (h0 : 0 < a) (h : a < topR) : (FloatKind.f64.format.order a 0 == some .gt) = true := by
  have hlt : a < 9223372036854775808 := by unfold topR at h; omega
  have := gtF_iff (x := a) (y := 0) (by omega) (by omega) (nan_wd (s := false) (Nat.le_of_lt h)) (by decide)
  unfold gtF at this
  rw [this, show sv a = (a : Int) from sv_wd (s := false) hlt, show sv 0 = 0 by decide]
  exact decide_eq_true (by omega)
theorem lt_top {a : Nat} (h : a < topR) : (FloatKind.f64.format.order a topR == some .lt) = true := by
  have hlt : a < 9223372036854775808 := by unfold topR at h; omega
  have := ltF_iff (x := a) (y := topR) (by omega) (by decide) (nan_wd (s := false) (Nat.le_of_lt h)) (by decide)
  unfold ltF at this
  rw [this, show sv a = (a : Int) from sv_wd (s := false) hlt, show sv topR = (topR : Int) by decide]
  exact decide_eq_true (by omega)
theorem top_top : (FloatKind.f64.format.order topR topR == some .lt) = false := by decide +kernel
theorem atJ_pos {j a : Nat} (h : AtJ 1 j a) : 0 < a := by
  rcases Nat.eq_zero_or_pos a with e | e
  · have := h.eq
    rw [e, mg_zero, Nat.one_mul] at this
    have := Nat.two_pow_pos j
    omega
  · exact e
theorem atJ_zero {a : Nat} (h : AtJ 1 0 a) : a = 1 := by
  refine mg_inj ?_
  rw [h.eq, mg_small (by omega)]
theorem atJ_last {a : Nat} (h : AtJ 1 2097 a) : a = 9214364837600034816 := by
  refine mg_inj ?_
  rw [h.eq]
  decide +kernel
theorem atJ_one : AtJ 1 1074 4607182418800017408 := ⟨by decide, by rw [mg_one, Nat.one_mul]⟩
theorem own_sliceN {w : World} {b e z n : Nat} {v : Value} {xs : List Value} (h : w.ownsRow b e z v (n + 1) xs) : ∃ g cap, v = .slice (some ⟨g, 0, none⟩) (n + 1) cap ∧ n + 1 ≤ cap := by
  rcases h.2 with ⟨_, h0⟩ | ⟨g, cap, cur, rfl, _, _, h3, _⟩
  · omega
  · exact ⟨g, cap, rfl, h3⟩
theorem add_atN (b o j : Nat) : (⟨b, o, none⟩ : Addr).add j = ⟨b, o + j, none⟩ := by unfold Addr.add; split <;> simp_all
theorem own_cell {w : World} {b e n g cap : Nat} {l : List Nat} (h : w.ownsRow b e 1 (.slice (some ⟨g, 0, none⟩) n cap) n (l.map (Value.float .f64))) {j : Nat} (hj : j < l.length) : w.cell? ⟨g, j, none⟩ = some (.float .f64 (l.getD j 0)) := by
  have := h.cells (g := g) rfl j (.float .f64 (l.getD j 0)) (by simp [List.getElem?_eq_getElem hj])
  rw [add_atN, Nat.zero_add] at this
  exact this
theorem own_new (w : World) (l : List Nat) (T : TypeId) (hl : l.length ≤ maxLen) : (w.alloc (.cells (l.map (Value.float .f64)).toArray T)).ownsRow w.heap.size T 1 (.slice (some ⟨w.heap.size, 0, none⟩) l.length l.length) l.length (l.map (Value.float .f64)) := by
  refine ⟨by simp, .inr ⟨w.heap.size, l.length, (l.map (Value.float .f64)).toArray, rfl, Nat.le_refl _, heap_alloc_new w _, Nat.le_refl _, hl, by simp, ?_⟩⟩
  rw [Nat.mul_one, List.take_of_length_le (by simp)]
theorem put_f (w : World) (x : Nat) (t N : Nat) (hN : w.heap.size = N) : ∀ (j : Nat) (u : Value), [Value.float .f64 x][j]? = some u → (w.alloc (Obj.cells #[Value.float .f64 x] t)).cell? ((⟨N, 0, none⟩ : Addr).add j) = some u := by
  subst hN
  intro j u hu
  cases j with
  | zero => simp at hu; subst hu; simp [Addr.add]
  | succ j => simp at hu
theorem below_grown {B : Nat} {a w w1 : World} {row : Option Nat} (h : Below B a w) (hg : w.grownBy w1 row) (hrow : ∀ k, row = some k → B ≤ k) (hB : B ≤ w.heap.size) : Below B a w1 :=
  ⟨hg.os.trans h.os, hg.tape.trans h.tape, hg.output.trans h.output, Nat.le_trans h.size hg.size, fun j hj => (hg.block j (by omega) (fun e => by have := hrow j e.symm; omega)).trans (h.block j hj)⟩
theorem Tryz.infoF : (Tryz.prog.info? 25).map (fun i => (i.zero, i.size, i.bytes)) = some (some (.float .f64 0), 1, 8) := by kernel_rfl
set_option maxHeartbeats 1000000 in
set_option maxRecDepth 100000 in
theorem edges_any (w : World) : Calls Tryz.prog 4 #[] w fun e w' => ∃ (l : List Nat) (A : Option Addr) (c : Nat), e = .returned (.slice A l.length c) ∧ l.length = 53 ∧ allW l ∧ l.length ≤ c ∧ RowF w' A l ∧ Below w.heap.size w w' := by
  have hop1 : ∀ t w, (binOp .quo t (.float .f64 4607182418800017408) (.float .f64 0)).run Tryz.prog w = .ok (.float .f64 topR) w := fun t w => run_float_arith w .quo t .f64 _ _ _ (one_quo false)
  have HONE := Aside0.mk atJ_one
  go_enter Tryz.func4, Tryz.ntmps4
  go_wp2_with (simp only [hop1])
  go_loopg [3] 1074 (fun gg s3 wr => ∃ (j a : Nat), j ≤ gg ∧ s3 = .float .f64 a ∧ Aside0 (AtJ 1 j a) ∧ wr = w)
  case atStart => exact ⟨1074, _, Nat.le_refl _, rfl, HONE, rfl⟩
  case round =>
    obtain ⟨j, a, hj, rfl, HJ, hw_⟩ := hrel
    obtain rfl := hw_.symm
    cases j with
    | succ j =>
      obtain ⟨a', hA, hq⟩ := HJ.out.half (by omega)
      have hop : ∀ t w, (binOp .quo t (.float .f64 a) (.float .f64 4611686018427387904)).run Tryz.prog w = .ok (.float .f64 a') w := fun t w => run_float_arith w .quo t .f64 _ _ _ hq
      have hg := pos_gt (atJ_pos hA) hA.top
      have HA := Aside0.mk hA
      clear hA hq HJ
      go_wp2_with (simp only [hop])
      go_roundg j
      case measure => omega
      case rel => exact ⟨j, a', Nat.le_refl _, rfl, HA, rfl⟩
    | zero =>
      have ha := atJ_zero HJ.out
      have hop : ∀ t w, (binOp .quo t (.float .f64 a) (.float .f64 4611686018427387904)).run Tryz.prog w = .ok (.float .f64 0) w := fun t w => run_float_arith w .quo t .f64 _ _ _ (by rw [ha]; decide +kernel)
      have hg : (FloatKind.f64.format.order 0 0 == some .gt) = false := by decide +kernel
      have HA := Aside0.mk ha
      clear HJ ha hj
      go_wp2_with (simp only [hop])
      go_loopg [4] 1023 (fun gg s4 wr => ∃ (j b : Nat), 2097 - j ≤ gg ∧ j ≤ 2097 ∧ s4 = .float .f64 b ∧ Aside0 (AtJ 1 j b) ∧ wr = w)
      case atStart => exact ⟨1074, _, by omega, by omega, rfl, HONE, rfl⟩
      case round =>
        obtain ⟨j, b, hj, hj2, rfl, HJ, hw_⟩ := hrel
        obtain rfl := hw_.symm
        rcases Nat.lt_or_eq_of_le hj2 with hlt | he
        · have hpw : 1 * 2 ^ (j + 1) < 2 ^ 2098 := by rw [Nat.one_mul]; exact Nat.pow_lt_pow_right (by omega) (by omega)
          obtain ⟨b', hB, hq⟩ := HJ.out.twice (by omega) hpw
          have hop2 : ∀ t w, (binOp .mul t (.float .f64 b) (.float .f64 4611686018427387904)).run Tryz.prog w = .ok (.float .f64 b') w := fun t w => run_float_arith w .mul t .f64 _ _ _ hq
          have hl := lt_top hB.top
          have HB := Aside0.mk hB
          clear hB hq HJ hpw
          go_wp2_with (simp only [hop2])
          go_roundg (2097 - (j + 1))
          case measure => omega
          case rel => exact ⟨j + 1, b', Nat.le_refl _, hlt, rfl, HB, rfl⟩
        · subst he
          have hb := atJ_last HJ.out
          have hop2 : ∀ t w, (binOp .mul t (.float .f64 b) (.float .f64 4611686018427387904)).run Tryz.prog w = .ok (.float .f64 topR) w := fun t w => run_float_arith w .mul t .f64 _ _ _ (by rw [hb]; decide +kernel)
          have hl := top_top
          obtain rfl := HA.out.symm
          subst hb
          clear HJ hj hj2
          have o0 : ∀ t w, (binOp .quo t (.float .f64 13830554455654793216) (.float .f64 topR)).run Tryz.prog w = .ok (.float .f64 9223372036854775808) w := fun t w => run_float_arith w .quo t .f64 _ _ _ (by decide +kernel)
          have o2 : ∀ t w, (binOp .mul t (.float .f64 1) (.float .f64 4613937818241073152)).run Tryz.prog w = .ok (.float .f64 3) w := fun t w => run_float_arith w .mul t .f64 _ _ _ (by decide +kernel)
          have o3 : ∀ t w, (binOp .mul t (.float .f64 1) (.float .f64 4841369599423283198)).run Tryz.prog w = .ok (.float .f64 4503599627370495) w := fun t w => run_float_arith w .mul t .f64 _ _ _ (by decide +kernel)
          have o4 : ∀ t w, (binOp .mul t (.float .f64 1) (.float .f64 4841369599423283200)).run Tryz.prog w = .ok (.float .f64 4503599627370496) w := fun t w => run_float_arith w .mul t .f64 _ _ _ (by decide +kernel)
          have o5 : ∀ t w, (binOp .quo t (.float .f64 9214364837600034816) (.float .f64 4845873199050653696)).run Tryz.prog w = .ok (.float .f64 8975674057349398528) w := fun t w => run_float_arith w .quo t .f64 _ _ _ (by decide +kernel)
          have o6 : ∀ t w, (binOp .sub t (.float .f64 9214364837600034816) (.float .f64 8975674057349398528)).run Tryz.prog w = .ok (.float .f64 9214364837600034815) w := fun t w => run_float_arith w .sub t .f64 _ _ _ (by decide +kernel)
          have o7 : ∀ t w, (binOp .add t (.float .f64 9214364837600034816) (.float .f64 9214364837600034815)).run Tryz.prog w = .ok (.float .f64 9218868437227405312) w := fun t w => run_float_arith w .add t .f64 _ _ _ (by decide +kernel)
          go_wp2_with (first | simp only [hop2] | simp only [o0] | simp only [o2] | simp only [o3] | simp only [o4] | simp only [o5] | simp only [o6] | simp only [o7])
          have hown := own_new w [0, 9223372036854775808, 4607182418800017408, 4602678819172646912, 4609434218613702656, 4611686018427387904, 4613937818241073152, 4591870180066957722, 4599676419421066581, 4622945017495814144, 4845873199050653695, 4845873199050653696, 4845873199050653696, 4845873199050653697, 4841369599423283199, 4841369599423283200, 4831355200913801216, 4936209963552724370, 9094988921128908188, 1, 3, 4503599627370495, 4503599627370496, 9214364837600034816, 9218868437227405312, topR] 25 (by decide)
          have HL0 := Aside0.mk hown
          have HAL : Aside0 (allW [0, 9223372036854775808, 4607182418800017408, 4602678819172646912, 4609434218613702656, 4611686018427387904, 4613937818241073152, 4591870180066957722, 4599676419421066581, 4622945017495814144, 4845873199050653695, 4845873199050653696, 4845873199050653696, 4845873199050653697, 4841369599423283199, 4841369599423283200, 4831355200913801216, 4936209963552724370, 9094988921128908188, 1, 3, 4503599627370495, 4503599627370496, 9214364837600034816, 9218868437227405312, topR]) := Aside0.mk (by unfold allW; decide)
          obtain ⟨r0, hn1, hn2, hnan⟩ : ∃ r0 : Nat, True ∧ True ∧ True := ⟨0, trivial, trivial, trivial⟩
          clear hown hop2 o0 o2 o3 o4 o5 o6 o7 hl hop hg hop1
          obtain ⟨i0, hi, hz0, hz1, hz2⟩ := info_parts Tryz.infoF
          go_loopg [5, 7] 26 (fun gg s5 s7 wr => ∃ (i : Nat) (l : List Nat), i ≤ 26 ∧ 26 - i ≤ gg ∧ s7 = .int .i64 i ∧ l.length = 26 + i ∧ Aside0 (allW l) ∧ Aside0 (wr.ownsRow w.heap.size 25 1 s5 (25 + i + 1) (l.map (Value.float .f64))) ∧ Aside0 (Below w.heap.size w wr))
          case atStart => exact ⟨0, _, by omega, by omega, rfl, by rfl, HAL, HL0, Aside0.mk ((Below.refl _ _).alloc (Nat.le_refl _) _)⟩
          case round =>
            obtain ⟨i, l, hi1, hgg, rfl, hll, HAW, HO, HB⟩ := hrel
            obtain ⟨g, cap, rfl, hcap⟩ := own_sliceN HO.out
            rcases Nat.lt_or_ge i 26 with hlt | hge
            · have hcell := own_cell HO.out (j := i) (by omega)
              have hx : l.getD i 0 < 18446744073709551616 := getD_w HAW.out i
              generalize l.getD i 0 = x at *
              have HNG := Aside0.mk (run_neg_float x hx)
              have HOA := Aside0.mk (HO.out.alloc (.cells #[.float .f64 (wd (!sb x) (rk x))] 25))
              have hcl : i < 25 + i + 1 := by omega
              clear HONE HA HL0 HAL
              go_wp2_with (first | simp only [HNG.out] | (at_builtin; refine wpList_append_own _ rfl _ _ 22 rfl w.heap.size 25 i0 (.float .f64 0) 1 8 Tryz.underlying22 hi hz0 hz1 hz2 rfl (by decide) _ _ _ rfl HOA.out ⟨wr.heap.size, 0, none⟩ 1 1 [.float .f64 (wd (!sb x) (rk x))] rfl rfl ?c1 ?c2 ?c3 ?c4 ?c5 ?c6))
              case c1 => exact put_f _ _ _ _ rfl
              case c2 => intro u hu; rw [List.mem_singleton.1 hu]; rfl
              case c3 => unfold maxLen; omega
              case c4 => omega
              case c5 => have := HB.out.size; simp; omega
              case c6 =>
                intro v' w1 hown' hgrow _
                have HO2 : Aside0 (w1.ownsRow w.heap.size 25 1 v' (25 + (i + 1) + 1) ((l ++ [wd (!sb x) (rk x)]).map (Value.float .f64))) := Aside0.mk (by rw [List.map_append]; exact hown')
                have HB2 : Aside0 (Below w.heap.size w w1) := Aside0.mk (below_grown (HB.out.alloc HB.out.size _) hgrow (fun k hk => (HOA.out.lt k hk).1) (by have := HB.out.size; simp; omega))
                have HAW2 : Aside0 (allW (l ++ [wd (!sb x) (rk x)])) := Aside0.mk (fun y hy => by
                  rcases List.mem_append.1 hy with q | q
                  · exact HAW.out y q
                  · rw [List.mem_singleton.1 q]; exact wd_lt (rk_lt x))
                clear hown' hgrow
                go_wp2
                go_roundg (26 - (i + 1))
                case measure => omega
                case rel => exact ⟨i + 1, l ++ [wd (!sb x) (rk x)], by omega, by omega, by go_num, by rw [List.length_append, hll]; rfl, HAW2, HO2, HB2⟩
            · obtain rfl : i = 26 := by omega
              obtain ⟨r0, hr1, hr2, hopn⟩ := nan_draw .quo (by simp) 0 0 zero_quo wr
              have HOD := Aside0.mk (show (wr.drew.alloc (.cells #[.float .f64 r0] 25)).ownsRow w.heap.size 25 1 (.slice (some ⟨g, 0, none⟩) (25 + 26 + 1) cap) (25 + 26 + 1) (l.map (Value.float .f64)) from World.ownsRow.alloc (show wr.drew.ownsRow _ _ _ _ _ _ from HO.out) _)
              clear HONE HA HL0 HAL hge hgg hi1
              go_wp2_with (first | simp only [hopn] | (at_builtin; refine wpList_append_own _ rfl _ _ 22 rfl w.heap.size 25 i0 (.float .f64 0) 1 8 Tryz.underlying22 hi hz0 hz1 hz2 rfl (by decide) _ _ _ rfl HOD.out ⟨wr.heap.size, 0, none⟩ 1 1 [.float .f64 r0] rfl rfl ?d1 ?d2 ?d3 ?d4 ?d5 ?d6))
              case d1 => exact put_f _ _ _ _ rfl
              case d2 => intro u hu; rw [List.mem_singleton.1 hu]; rfl
              case d3 => unfold maxLen; omega
              case d4 => omega
              case d5 => have := HB.out.size; simp; omega
              case d6 =>
                intro v' w1 hown' hgrow _
                obtain ⟨g2, cap2, rfl, hcap2⟩ := own_sliceN hown'
                have HB2 : Aside0 (Below w.heap.size w w1) := Aside0.mk (below_grown (HB.out.drew.alloc HB.out.size _) hgrow (fun k hk => (HOD.out.lt k hk).1) (by have := HB.out.size; simp; omega))
                have HO2 : Aside0 (w1.ownsRow w.heap.size 25 1 (.slice (some ⟨g2, 0, none⟩) (25 + 26 + 1 + 1) cap2) (25 + 26 + 1 + 1) ((l ++ [r0]).map (Value.float .f64))) := Aside0.mk (by rw [List.map_append]; exact hown')
                have hll2 : (l ++ [r0]).length = 53 := by rw [List.length_append, hll]; rfl
                clear hown' hgrow
                go_wp2
                go_ret
                refine ⟨l ++ [r0], some ⟨g2, 0, none⟩, cap2, by rw [hll2]; rfl, hll2, ?_, by rw [hll2]; exact hcap2, fun _ => ⟨_, rfl, fun j hj => ?_⟩, HB2.out⟩
                · intro y hy
                  rcases List.mem_append.1 hy with q | q
                  · exact HAW.out y q
                  · rw [List.mem_singleton.1 q]; exact hr1
                · rw [add_atN, Nat.zero_add]
                  exact own_cell HO2.out hj
end Go.Proofs.YtghnlhadohnenaaGreatDoor
