/- Numbers: the law Known: the walk. -/
import Derived.Test.YtghnlhadohnenaaGreatDoorNumAH
import Derived.IntWalk
import Derived.Deep.RegionHeld3
namespace Go.Proofs.YtghnlhadohnenaaGreatDoor
set_option exponentiation.threshold 3000
open Go.Shelf Go.RowKit Go.Proofs.YtghnlhadohnenaaGreatDoorW.PrintWords Go.Proofs.YtghnlhadohnenaaGreatDoorW.PrintLast Go.Proofs.YtghnlhadohnenaaGreatDoorW.PrintMore
set_option linter.unusedVariables false
set_option linter.unusedSimpArgs false
theorem at_law {w : World} (hT : NTabs w) {f : Nat} {args : Array Value} (h : ∀ W, NTabs W → Calls Tryz.prog f args W (LawE W)) : At w f args (.bool true) := at_tabs hT h
theorem at_least3 {w : World} (hT : NTabs w) (x y z : Nat) (hx : x < 18446744073709551616) (hy : y < 18446744073709551616) (hz : z < 18446744073709551616) : ∀ W, Below w.heap.size w W → Calls Tryz.prog 10 #[.slice (some ⟨W.heap.size, 0, none⟩) 3 3] (W.alloc (.cells #[.float .f64 x, .float .f64 y, .float .f64 z] 25)) fun e w' => e = .returned (.bool true) ∧ Below w.heap.size w w' := by
  intro W hb
  have hl : allW [x, y, z] := fun u hu => by
    simp only [List.mem_cons, List.mem_nil_iff, or_false] at hu
    rcases hu with hu | hu | hu <;> omega
  have hb2 : Below w.heap.size w (W.alloc (.cells #[.float .f64 x, .float .f64 y, .float .f64 z] 25)) := hb.alloc hb.size _
  exact (law_Least [x, y, z] hl (by unfold maxLen; simp) (some ⟨W.heap.size, 0, none⟩) 3 (by simp) _ (row_new W _ 25) (hT.below hb2)).mono fun e w' ⟨h1, h2⟩ => ⟨h1, hb2.trans (h2.mono hb2.size)⟩
theorem cell_in {w1 W : World} {ad : Addr} {l : List Nat} (hc : ∀ j, j < l.length → w1.cell? (ad.add j) = some (.float .f64 (l.getD j 0))) (hb : Below w1.heap.size w1 W) {j : Nat} (hj : j < l.length) : W.cell? (ad.add j) = some (.float .f64 (l.getD j 0)) := (hb.cell (Lib.lt_of_cell (hc j hj))).trans (hc j hj)
def strsK : Array Value := #[.string ⟨#[]⟩, .string ⟨#[45]⟩, .string ⟨#[48]⟩, .string ⟨#[45, 48]⟩, .string ⟨#[48, 48]⟩, .string ⟨#[48, 49]⟩, .string ⟨#[43, 49]⟩, .string ⟨#[49, 46, 53]⟩, .string ⟨#[49, 101, 51]⟩, .string ⟨#[110, 97, 110]⟩, .string ⟨#[45, 110, 97, 110]⟩, .string ⟨#[78, 97, 78]⟩, .string ⟨#[105, 110, 102]⟩, .string ⟨#[45, 105, 110, 102]⟩, .string ⟨#[43, 105, 110, 102]⟩, .string ⟨#[73, 110, 102]⟩, .string ⟨#[49, 112]⟩, .string ⟨#[112, 49]⟩, .string ⟨#[49, 112, 45, 49]⟩, .string ⟨#[45, 49, 112, 45, 49]⟩, .string ⟨#[50, 112, 51]⟩, .string ⟨#[50, 112, 45, 49]⟩, .string ⟨#[49, 112, 52]⟩, .string ⟨#[49, 112, 53, 51]⟩, .string ⟨#[49, 112, 53, 50]⟩, .string ⟨#[49, 112, 49, 48, 50, 51]⟩, .string ⟨#[49, 112, 49, 48, 50, 52]⟩, .string ⟨#[49, 112, 45, 49, 48, 55, 52]⟩, .string ⟨#[49, 112, 45, 49, 48, 55, 53]⟩, .string ⟨#[51, 112, 45, 49, 48, 55, 52]⟩, .string ⟨#[49, 112, 43, 49]⟩, .string ⟨#[49, 112, 48, 49]⟩, .string ⟨#[49, 112, 45, 48]⟩, .string ⟨#[49, 112, 48]⟩, .string ⟨#[48, 112, 49]⟩, .string ⟨#[57, 48, 48, 55, 49, 57, 57, 50, 53, 52, 55, 52, 48, 57, 57, 49]⟩, .string ⟨#[57, 48, 48, 55, 49, 57, 57, 50, 53, 52, 55, 52, 48, 57, 57, 50]⟩, .string ⟨#[57, 48, 48, 55, 49, 57, 57, 50, 53, 52, 55, 52, 48, 57, 57, 51, 112, 49]⟩, .string ⟨#[57, 48, 48, 55, 49, 57, 57, 50, 53, 52, 55, 52, 48, 57, 57, 49, 112, 49]⟩, .string ⟨#[57, 48, 48, 55, 49, 57, 57, 50, 53, 52, 55, 52, 48, 57, 57, 49, 112, 57, 55, 49]⟩, .string ⟨#[57, 48, 48, 55, 49, 57, 57, 50, 53, 52, 55, 52, 48, 57, 57, 49, 112, 57, 55, 50]⟩, .string ⟨#[57, 48, 48, 55, 49, 57, 57, 50, 53, 52, 55, 52, 48, 57, 57, 49, 112, 45, 49, 48, 55, 52]⟩, .string ⟨#[57, 57, 57, 57, 57, 57, 57, 57, 57, 57, 57, 57, 57, 57, 57, 57, 57, 57, 57, 57]⟩, .string ⟨#[49, 112, 57, 57, 57, 57, 57, 57, 57, 57, 57, 57, 57, 57, 57, 57, 57, 57, 57, 57, 57, 57]⟩, .string ⟨#[32, 49]⟩, .string ⟨#[49, 32]⟩, .string ⟨#[49, 95, 48]⟩, .string ⟨#[48, 120, 49, 112, 51]⟩, .string ⟨#[45, 45, 49]⟩, .string ⟨#[49, 112, 112, 49]⟩, .string ⟨#[54, 48, 48, 52, 55, 57, 57, 53, 48, 51, 49, 54, 48, 54, 54, 49, 112, 45, 53, 52]⟩]
def isStr : Value → Bool
  | .string _ => true
  | _ => false
/-- A block of 51 strings. -/
def Strs (W : World) (g : Nat) : Prop := g < W.heap.size ∧ ∀ j, j < 51 → ∃ s, W.cell? ⟨g, j, none⟩ = some (.string s)
theorem strs_new (W : World) (C : Array Value) (T : TypeId) (h1 : C.toList.all isStr = true) (h2 : C.toList.length = 51) : Strs (W.alloc (.cells C T)) W.heap.size := by
  refine ⟨by simp, fun j hj => ?_⟩
  rw [World.cell?_alloc_new]
  have hj' : j < C.toList.length := by omega
  have := List.all_eq_true.1 h1 _ (List.getElem_mem hj')
  cases hv : C.toList[j] with
  | string s => exact ⟨s, by rw [← Array.getElem?_toList, List.getElem?_eq_getElem hj', hv]⟩
  | _ => rw [hv] at this; cases this
theorem Strs.below {W W' : World} {g : Nat} (h : Strs W g) (hb : Below W.heap.size W W') : Strs W' g :=
  ⟨Nat.lt_of_lt_of_le h.1 hb.size, fun j hj => by
    obtain ⟨s, hs⟩ := h.2 j hj
    exact ⟨s, (hb.cell (p := ⟨g, j, none⟩) h.1).trans hs⟩⟩
set_option maxHeartbeats 4000000 in
set_option maxRecDepth 100000 in
theorem law_Known (w : World) (hT : NTabs w) : Calls Tryz.prog 3 #[] w (LawE w) := by
  have HT := Aside0.mk hT
  clear hT
  go_enter Tryz.func3, Tryz.ntmps3
  go_wp2_with (go_at_call 4; (with_reducible refine (edges_any _).mono ?_); rintro e w1 ⟨l, A, c, rfl, hll, hal, hlc, hr, hb⟩; obtain ⟨ad, rfl, hcel⟩ := hr (by omega); have HB0 := Aside0.mk hb; have HAL := Aside0.mk hal; have HC := Aside0.mk hcel; clear hb hal hr hcel)
  have HT1 := Aside0.mk (HT.out.below HB0.out)
  go_loopg [2, 3] 53 (fun gg s2 s3 wr => ∃ i : Nat, i ≤ 53 ∧ 53 - i ≤ gg ∧ s2 = .int .i64 i ∧ Aside0 (Below w1.heap.size w1 wr))
  case atStart => exact ⟨0, by omega, by omega, rfl, Aside0.mk (Below.refl _ _)⟩
  case round =>
    obtain ⟨i, hi, hgg, rfl, HB⟩ := hrel
    rcases Nat.lt_or_ge i 53 with hlt | hge
    · have hci := cell_in HC.out HB.out (j := i) (by omega)
      have hxi : l.getD i 0 < 18446744073709551616 := getD_w HAL.out i
      have HCI := Aside0.mk (fun W hb => cell_in HC.out (W := W) hb (j := i) (by omega))
      generalize hxe : l.getD i 0 = x at *
      have HP := Aside0.mk (at_law HT1.out (fun W hN => law_Print x hxi W hN))
      have HW := Aside0.mk (at_law HT1.out (fun W hN => law_Whole x hxi W hN))
      simp only [At] at HP HW
      have HXE := Aside0.mk hxe
      clear hxe
      go_wp2_with (first | (go_at_call 5; (with_reducible refine (HP.out _ HB.out).mono ?_); rintro e w2 ⟨rfl, hb⟩; have HB := Aside0.mk hb; have hci2 := HCI.out _ hb; clear hb) | (go_at_call 6; (with_reducible refine (HW.out _ HB.out).mono ?_); rintro e w3 ⟨rfl, hb⟩; have HB := Aside0.mk hb; clear hb))
      go_loopg [3] 53 (fun gg s3 wr => ∃ k : Nat, k ≤ 53 ∧ 53 - k ≤ gg ∧ s3 = .int .i64 k ∧ Aside0 (Below w1.heap.size w1 wr))
      case atStart => exact ⟨0, by omega, by omega, rfl, HB⟩
      case round =>
        obtain ⟨k, hk, hgk, rfl, HB⟩ := hrel
        rcases Nat.lt_or_ge k 53 with hkl | hkg
        · have hyk : l.getD k 0 < 18446744073709551616 := getD_w HAL.out k
          obtain ⟨p, hp⟩ : ∃ p : Nat, p = (i * 7 + k) % 53 := ⟨_, rfl⟩
          obtain ⟨q, hq⟩ : ∃ q : Nat, q = (i + 2 * k) % 53 := ⟨_, rfl⟩
          have HPE := Aside0.mk hp
          have HQE := Aside0.mk hq
          have hp53 : p < 53 := by omega
          have hq53 : q < 53 := by omega
          clear hp hq
          obtain ⟨r, hr⟩ : ∃ r : Nat, r = (i + k) % 4 := ⟨_, rfl⟩
          have hr4 : r < 4 := by omega
          have W1 : IntKind.i64.wrap ((i : Int) * 7) = (i : Int) * 7 := IntWalk.i64_in _ (by omega)
          have W2 : IntKind.i64.wrap ((i : Int) * 7 + (k : Int)) = (i : Int) * 7 + (k : Int) := IntWalk.i64_in _ (by omega)
          have W3 : ((i : Int) * 7 + (k : Int)).tmod 53 = (p : Int) := by rw [Int.tmod_eq_emod_of_nonneg (by omega), HPE.out]; omega
          have W3b : ((i : Int) * 7 + (k : Int)) % 53 = (p : Int) := by rw [HPE.out]; omega
          have W6b : ((i : Int) + 2 * (k : Int)) % 53 = (q : Int) := by rw [HQE.out]; omega
          have V1 : (0 : Int) ≤ (p : Int) := by omega
          have V2 : (p : Int) < 53 := by omega
          have V3 : (0 : Int) ≤ (q : Int) := by omega
          have V4 : (q : Int) < 53 := by omega
          have W4 : IntKind.i64.wrap (2 * (k : Int)) = 2 * (k : Int) := IntWalk.i64_in _ (by omega)
          have W5 : IntKind.i64.wrap ((i : Int) + 2 * (k : Int)) = (i : Int) + 2 * (k : Int) := IntWalk.i64_in _ (by omega)
          have W6 : ((i : Int) + 2 * (k : Int)).tmod 53 = (q : Int) := by rw [Int.tmod_eq_emod_of_nonneg (by omega), HQE.out]; omega
          have W7 : IntKind.i64.wrap ((i : Int) + (k : Int)) = (i : Int) + (k : Int) := IntWalk.i64_in _ (by omega)
          have W8 : ((i : Int) + (k : Int)).tmod 4 = (r : Int) := by rw [Int.tmod_eq_emod_of_nonneg (by omega), hr]; omega
          clear hr
          have hzp : l.getD p 0 < 18446744073709551616 := getD_w HAL.out p
          have hzq : l.getD q 0 < 18446744073709551616 := getD_w HAL.out q
          have HCK : Aside0 (∀ W, Below w1.heap.size w1 W → W.cell? (ad.add i) = some (.float .f64 x) ∧ W.cell? (ad.add k) = some (.float .f64 (l.getD k 0)) ∧ W.cell? (ad.add p) = some (.float .f64 (l.getD p 0)) ∧ W.cell? (ad.add q) = some (.float .f64 (l.getD q 0))) := Aside0.mk (fun W hb => ⟨HCI.out W hb, cell_in HC.out hb (by omega), cell_in HC.out hb (by omega), cell_in HC.out hb (by omega)⟩)
          generalize l.getD k 0 = y at *
          generalize l.getD p 0 = z at *
          generalize l.getD q 0 = u at *
          have HLC := Aside0.mk (at_law HT1.out (fun W hN => law_Compare x y hxi hyk W hN))
          have HLO := Aside0.mk (at_law HT1.out (fun W hN => law_Order x y z hxi hyk hzp W hN))
          have HLD := Aside0.mk (fun op => at_law HT1.out (fun W hN => law_Do op x y W hN))
          have HLL := Aside0.mk (at_least3 HT1.out x y u hxi hyk hzq)
          simp only [At] at HLC HLO HLD
          obtain ⟨c1, c2, c3, c4⟩ := HCK.out _ HB.out
          clear HP HW HXE hci HC HAL HCI HT HB0
          go_wp2
          simp only [List.append]
          have HB := Aside0.mk HB.out.drew
          go_region_held3 (fun w' => w'.cell? (ad.add i) = some (.float .f64 x) ∧ w'.cell? (ad.add k) = some (.float .f64 y) ∧ w'.cell? (ad.add p) = some (.float .f64 z) ∧ w'.cell? (ad.add q) = some (.float .f64 u)) (first | exact (HCK.out _ HB.out).1 | exact (HCK.out _ HB.out).2.1 | exact (HCK.out _ HB.out).2.2.1 | exact (HCK.out _ HB.out).2.2.2 | exact HCK.out _ HB.out | exact HCK.out _ (HB.out.alloc HB.out.size _) | exact (HCK.out _ (HB.out.alloc HB.out.size _)).1 | exact (HCK.out _ (HB.out.alloc HB.out.size _)).2.1 | exact (HCK.out _ (HB.out.alloc HB.out.size _)).2.2.1 | exact (HCK.out _ (HB.out.alloc HB.out.size _)).2.2.2 | go_keep) (first | (go_at_call 7; (refine (HLC.out _ HB.out).mono ?_); rintro e w4 ⟨rfl, hb⟩; have HB := Aside0.mk hb; clear hb) | (go_at_call 8; (refine (HLO.out _ HB.out).mono ?_); rintro e w4 ⟨rfl, hb⟩; have HB := Aside0.mk hb; clear hb) | (go_at_call 9; (refine (HLD.out _ _ HB.out).mono ?_); rintro e w4 ⟨rfl, hb⟩; have HB := Aside0.mk hb; clear hb) | (go_at_call 10; (refine (HLL.out _ HB.out).mono ?_); rintro e w4 ⟨rfl, hb⟩; have HB := Aside0.mk hb; clear hb))
          go_wp2
          go_roundg (53 - (k + 1))
          case measure => omega
          case rel => exact ⟨k + 1, by omega, by omega, by go_num, HB⟩
        · obtain rfl : k = 53 := by omega
          go_wp2
          go_roundg (53 - (i + 1))
          case measure => omega
          case rel => exact ⟨i + 1, by omega, by omega, by go_num, HB⟩
    · obtain rfl : i = 53 := by omega
      have HW := Aside0.mk (at_works HT1.out)
      have HLD := Aside0.mk (fun op => at_law HT1.out (fun W hN => law_Do op 4607182418800017408 4611686018427387904 W hN))
      have HLP := Aside0.mk (fun s => at_law HT1.out (fun W hN => law_Parse s W hN))
      have HLN : Aside0 (At w1 10 #[.slice none 0 0] (.bool true)) := Aside0.mk (at_law HT1.out (fun W hN => law_Least [] (by simp [allW]) (by simp) none 0 (Nat.le_refl _) W (fun h => absurd h (by simp)) hN))
      simp only [At] at HW HLD HLP HLN
      clear HC HAL
      go_wp2
      have HS : Aside0 (Strs _ wr.heap.size) := Aside0.mk (strs_new wr strsK 9 (by rfl) (by rfl))
      have HB3 := Aside0.mk (HB.out.alloc HB.out.size (.cells strsK 9))
      obtain ⟨wo, hwo⟩ : ∃ wo : World, wo = wr := ⟨_, rfl⟩
      subst hwo
      clear HB
      go_loopg [107] 51 (fun gg s107 wr => ∃ i : Nat, i ≤ 51 ∧ 51 - i ≤ gg ∧ s107 = .int .i64 i ∧ Aside0 (Strs wr wo.heap.size) ∧ Aside0 (Below w1.heap.size w1 wr))
      case atStart => exact ⟨0, by omega, by omega, rfl, HS, HB3⟩
      case round =>
        obtain ⟨i, hi, hgg, rfl, HS, HB⟩ := hrel
        rcases Nat.lt_or_ge i 51 with hlt | hge
        · obtain ⟨s, hs⟩ := HS.out.2 i hlt
          have HL := Aside0.mk (law_Parse s wr (HT1.out.below HB.out))
          have HBP := HB
          go_wp2_with (go_at_call 11; (with_reducible refine (HL.out).mono ?_); rintro e w2 ⟨rfl, hb⟩; have HS2 := Aside0.mk (HS.out.below hb); have HB2 := Aside0.mk (HB.out.trans (hb.mono HB.out.size)); clear hb)
          go_roundg (51 - (i + 1))
          case measure => omega
          case rel => exact ⟨i + 1, by omega, by omega, by go_num, HS2, HB2⟩
        · obtain rfl : i = 51 := by omega
          go_wp2_with (first | (go_at_call 10; (with_reducible refine (HLN.out _ HB.out).mono ?_); rintro e w2 ⟨rfl, hb⟩; have HB := Aside0.mk hb; clear hb) | (go_at_call 9; (with_reducible refine (HLD.out _ _ HB.out).mono ?_); rintro e w2 ⟨rfl, hb⟩; have HB := Aside0.mk hb; clear hb) | (go_at_call 12; (with_reducible refine (HW.out _ HB.out).mono ?_); rintro e w2 ⟨rfl, hb⟩; have HB := Aside0.mk hb; clear hb))
          go_ret
          exact ⟨rfl, HB0.out.trans (HB.out.mono HB0.out.size)⟩
end Go.Proofs.YtghnlhadohnenaaGreatDoor
