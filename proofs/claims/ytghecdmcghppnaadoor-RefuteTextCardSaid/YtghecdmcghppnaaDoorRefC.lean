/- refute.lit, refute.Print: what each answers. -/
import Derived.Test.YtghecdmcghppnaaDoorRefA
import Derived.Test.YtghecdmcghppnaaDoorRefB
import Derived.Test.YtghecdmcghppnaaDoorRefP
namespace Go.Proofs.YtghecdmcghppnaaDoor
open Go.RowKit Go.Proofs.YtghecdmcghppnaaDoorW.PrintWords Go.Proofs.YtghecdmcghppnaaDoorW.PrintMore
set_option linter.unusedVariables false
set_option linter.unusedSimpArgs false
theorem lit_any (x : Int) (w : World) : Calls Tryd.prog 25 #[.int .i64 x] w fun e w' => e = .returned (.bool (litR x)) ∧ w' = w := by
  have fin : ∀ b, litR x = b → ∀ w' : World, w' = w → (Ending.returned (.bool b) = .returned (.bool (litR x)) ∧ w' = w) := fun b h w' hw => ⟨by rw [h], hw⟩
  by_cases c1 : x = 0
  · have b1 : (x != 0) = false := by simp [c1]
    have e : litR x = false := by simp [litR, c1]
    rw [e]
    clear fin e c1
    go_enter Tryd.func25, Tryd.ntmps25
    go_wp2
    go_ret
    exact ⟨rfl, rfl⟩
  · have b1 : (x != 0) = true := by simp [c1]
    by_cases c2 : x ≥ -100000
    · have b2 : decide (x ≥ -100000) = true := decide_eq_true c2
      have b2' : decide (-100000 ≤ x) = true := decide_eq_true c2
      have e : litR x = decide (x ≤ 100000) := by simp [litR, c1]; omega
      rw [e]
      clear fin e c1 c2
      go_enter Tryd.func25, Tryd.ntmps25
      go_wp2
      go_ret
      exact ⟨rfl, rfl⟩
    · have b2 : decide (x ≥ -100000) = false := decide_eq_false c2
      have b2' : decide (-100000 ≤ x) = false := decide_eq_false c2
      have e : litR x = false := by simp [litR]; omega
      rw [e]
      clear fin e c1 c2
      go_enter Tryd.func25, Tryd.ntmps25
      go_wp2
      go_ret
      exact ⟨rfl, rfl⟩
theorem grown_below (w : World) (k : Nat) (os : Array Obj) : Below w.heap.size w (Go.Sort.grow (w.drewN k) os) := ⟨by rfl, by rfl, by rfl, by simp [Go.Sort.grow], fun j hj => by simp [Go.Sort.grow, Array.getElem?_append, hj]⟩
theorem itoa_any (x : Int) (h : litR x = true) (w : World) (hT : VTabs w) : Calls Tryd.prog 27 #[.int .i64 x] w fun e w' => e = .returned (.string ⟨(Lib.itoa x).toArray⟩) ∧ Below w.heap.size w w' := by
  have := litR_iff.1 h
  refine (Tryd.strconv_Itoa x (by omega) (by omega) w hT.p10).mono fun e w' ⟨h1, k, os, h2⟩ => ⟨h1, ?_⟩
  rw [h2]
  exact grown_below w k os
theorem builder_below {B b : Nat} {bs : List Value} {w w' : World} (h : Lib.IsBuilderF 52 5 B b bs w) (hb : Below w.heap.size w w') : Lib.IsBuilderF 52 5 B b bs w' := by
  have key : ∀ p, Lib.BuilderAtF 52 5 B b p bs w → Lib.BuilderAtF 52 5 B b p bs w' := by
    intro p h
    have hlt := h.lt
    obtain ⟨hB, v, hbk, hown, hne⟩ := h
    exact ⟨hB, v, (hb.block b hlt).trans hbk, hown.kept (row := none) ⟨hb.os, hb.tape, hb.output, hb.size, fun k hk _ => hb.block k hk⟩ (by
      rcases h2 : v.ownBlock with _ | q
      · exact .inl rfl
      · exact .inr (by simp)), hne⟩
  exact h.imp (key _) (key _)
def PrintPost (l : List (List Int)) (w : World) (e : Ending) (w' : World) : Prop := e = .returned (.tuple #[.string ⟨(if allR l then rowsT l else []).toArray⟩, .int .i64 (if allR l then 0 else 2)]) ∧ Below w.heap.size w w'
theorem strCells_litT (x : Int) : Lib.strCells (⟨(Lib.itoa x).toArray⟩ ++ ⟨#[32]⟩) = Lib.byteCells (Lib.itoa x ++ [32]) := by
  simp [Lib.strCells, Lib.byteCells]
theorem byteCells_append (a b : List UInt8) : Lib.byteCells (a ++ b) = Lib.byteCells a ++ Lib.byteCells b := by simp [Lib.byteCells]
set_option maxRecDepth 100000 in
set_option maxHeartbeats 4000000 in
theorem Print_any (A : Option Addr) (c : Nat) (l : List (List Int)) (w : World) (hr : Kd.C (Kd.slice 3 (Kd.int .i64)) w A l.length l) (hT : VTabs w) (ht : total l ≤ 1000000) (hl : l.length ≤ 1000000) :
    Calls Tryd.prog 12 #[.slice A l.length c] w (PrintPost l w) := by
  obtain ⟨V, hV, hs⟩ := rowPlaces_intss hr
  have HV := Aside0.mk hV
  have HS := Aside0.mk hs
  have HT := Aside0.mk hT
  have HTT := Aside0.mk ht
  have HWS : Aside0 (∀ (s : ByteArray) (bs : List Value) (W : World), w.heap.size ≤ W.heap.size → Lib.IsBuilderF 52 5 w.heap.size w.heap.size bs W → bs.length + s.size ≤ 140737488355328 → Calls Tryd.prog 26 #[.pointer (some ⟨w.heap.size, 0, none⟩), .string s] W fun e w' => e = .returned (.tuple #[.int .i64 s.size, .nilIface]) ∧ Lib.IsBuilderF 52 5 w.heap.size w.heap.size (bs ++ Lib.strCells s) w' ∧ Below w.heap.size W w') :=
    ⟨fun s bs W h1 h2 h3 => (WriteString_k w.heap.size w.heap.size bs s W h2 h3 h1).mono fun e w' ⟨e1, e2, e3, _⟩ => ⟨e1, .inr e2, e3⟩⟩
  have HIT : Aside0 (∀ (x : Int) (W : World), litR x = true → Below w.heap.size w W → Calls Tryd.prog 27 #[.int .i64 x] W fun e w' => e = .returned (.string ⟨(Lib.itoa x).toArray⟩) ∧ Below W.heap.size W w') := ⟨fun x W h1 h2 => itoa_any x h1 W (hT.below h2)⟩
  have HB0 : Aside0 (Lib.IsBuilderF 52 5 w.heap.size w.heap.size [] (w.alloc (.cells #[.pointer none, .slice none 0 0] 52))) := ⟨Lib.IsBuilderF.of (Lib.fresh_isBuilder _ _ w)⟩
  have HBW : Aside0 (Below w.heap.size w (w.alloc (.cells #[.pointer none, .slice none 0 0] 52))) := ⟨(Below.refl _ _).alloc (Nat.le_refl _) _⟩
  clear hV hs hr hT ht
  go_enter Tryd.func12, Tryd.ntmps12
  go_wp2
  go_loopg [11] l.length (fun gg s11 wr => ∃ k : Nat, k ≤ l.length ∧ l.length - k ≤ gg ∧ s11 = .int .i64 k ∧ Aside0 (Lib.IsBuilderF 52 5 w.heap.size w.heap.size (Lib.byteCells (rowsT (l.take k))) wr) ∧ Aside0 (Below w.heap.size w wr) ∧ Aside0 (allR (l.take k) = true))
  case atStart => exact ⟨0, Nat.zero_le _, by omega, rfl, HB0, HBW, ⟨rfl⟩⟩
  case round =>
    clear HB0 HBW
    obtain ⟨k, hk, hg, rfl, HB, HW, HA⟩ := hrel
    by_cases hlt : k < l.length
    · obtain ⟨ad, rfl, hc⟩ := HV.out (by omega)
      obtain ⟨A', c', hv, _, hK⟩ := HS.out k hlt
      have hcell : wr.cell? (ad.add k) = some (.slice A' (l.getD k []).length c') := by rw [← hv]; exact pw_cell_below HW.out (hc k hlt)
      have HK : Aside0 (RowPlaces w A' (l.getD k []).length (fun j => .int .i64 ((l.getD k []).getD j 0))) := ⟨rowPlaces_ints hK⟩
      have H1 := Aside0.mk (rowsT_snoc l k hlt)
      have H2 := Aside0.mk (allR_snoc l k hlt)
      have H3 : Aside0 (∀ j, j < (l.getD k []).length → litR ((l.getD k []).getD j 0) = false → allR l = false) := ⟨fun j hj hx => allR_no hlt hj hx⟩
      have HL : Aside0 ((rowsT (l.take k)).length ≤ 100000000 ∧ (l.getD k []).length ≤ 1000000) := ⟨by
        have h1 := rowsT_len (l.take k) HA.out
        have h2 := total_take_le l k
        have h3 := total_snoc l k hlt
        have h4 := total_take_le l (k + 1)
        have h5 := HTT.out
        have h6 : (l.take k).length ≤ l.length := by rw [List.length_take]; omega
        have h7 : ((l.take k).map List.length).sum = total (l.take k) := rfl
        omega⟩
      have hcc : (l.getD k []).length ≤ 1000000 := HL.out.2
      clear hc hv hK
      generalize l.getD k [] = cc at *
      go_wp2
      go_loopg [17] cc.length (fun gg s17 wr => ∃ j : Nat, j ≤ cc.length ∧ cc.length - j ≤ gg ∧ s17 = .int .i64 j ∧ Aside0 (Lib.IsBuilderF 52 5 w.heap.size w.heap.size (Lib.byteCells (rowsT (l.take k) ++ (cc.take j).flatMap litT)) wr) ∧ Aside0 (Below w.heap.size w wr) ∧ Aside0 ((cc.take j).all litR = true))
      case atStart => exact ⟨0, Nat.zero_le _, by omega, rfl, ⟨by simpa using HB.out⟩, HW, ⟨rfl⟩⟩
      case round =>
        clear hcell HB HW
        obtain ⟨j, hj, hgj, rfl, HB, HW, HJ⟩ := hrel
        by_cases hlj : j < cc.length
        · obtain ⟨ad2, rfl, hc2⟩ := HK.out (by omega)
          have hcell2 : wr.cell? (ad2.add j) = some (.int .i64 (cc.getD j 0)) := pw_cell_below HW.out (hc2 j hlj)
          have G1 := Aside0.mk (litsT_snoc cc j hlj)
          have G2 := Aside0.mk (all_snoc cc j hlj)
          have G3 := Aside0.mk (H3.out j hlj)
          have hlit := lit_any (cc.getD j 0)
          clear hc2
          generalize cc.getD j 0 = x at *
          cases hx : litR x with
          | false =>
            rw [hx] at hlit
            have HLIT := Aside0.mk hlit
            have GA := Aside0.mk (G3.out hx)
            clear hlit hx
            go_wp2_with (go_at_call 25; refine (HLIT.out _).mono ?_; rintro e w' ⟨rfl, rfl⟩)
            go_ret2
            exact ⟨by rw [GA.out]; rfl, HW.out⟩
          | true =>
            rw [hx] at hlit
            have HLIT := Aside0.mk hlit
            have HX := Aside0.mk hx
            have HLEN : Aside0 ((rowsT (l.take k) ++ (cc.take j).flatMap litT).length + ((⟨(Lib.itoa x).toArray⟩ : ByteArray) ++ ⟨#[32]⟩).size ≤ 140737488355328) := ⟨by
              have h1 := litsT_len (cc.take j) HJ.out
              have h2 : (cc.take j).length ≤ cc.length := by rw [List.length_take]; omega
              have h3 := HL.out
              have h4 := litR_iff.1 hx
              have h5 := Lib.itoa_length_le x (by omega) (by omega)
              have h6 : ((⟨(Lib.itoa x).toArray⟩ : ByteArray) ++ ⟨#[32]⟩).size = (Lib.itoa x).length + 1 := by
                rw [Lib.size_eq]
                simp
              rw [h6, List.length_append]
              omega⟩
            have G4 : Aside0 ((cc.take (j + 1)).all litR = true) := ⟨by rw [G2.out, HJ.out, hx]; rfl⟩
            have hsz : (⟨(Lib.itoa x).toArray⟩ : ByteArray).size ≤ 21 := by
              have h4 := litR_iff.1 hx
              have h5 := Lib.itoa_length_le x (by omega) (by omega)
              rw [Lib.size_eq]
              simpa using h5
            have hsz2 : (Lib.itoa x).length ≤ 21 := by
              have h4 := litR_iff.1 hx
              exact Lib.itoa_length_le x (by omega) (by omega)
            clear hlit hx
            go_wp2_with (first | (go_at_call 25; refine (HLIT.out _).mono ?_; rintro e w' ⟨rfl, rfl⟩) | (go_at_call 27; refine (HIT.out _ _ HX.out HW.out).mono ?_; rintro e w1 ⟨rfl, hb⟩; have HB1 := Aside0.mk (builder_below HB.out hb); have HW1 := Aside0.mk (HW.out.trans (hb.mono HW.out.size)); clear hb) | (go_at_call 26; refine (HWS.out _ _ _ HW1.out.size HB1.out (by have := HLEN.out; simpa [Lib.byteCells] using this)).mono ?_; rintro e w2 ⟨rfl, hb2, hb3⟩; have HB2 := Aside0.mk hb2; have HW2 := Aside0.mk (HW1.out.trans hb3); clear hb2 hb3))
            go_roundg (cc.length - (j + 1))
            case measure => omega
            case rel => exact ⟨j + 1, by omega, by omega, by go_num, ⟨by
              have := HB2.out
              rw [strCells_litT, ← byteCells_append, List.append_assoc, ← G1.out] at this
              exact this⟩, HW2, G4⟩
        · obtain rfl : j = cc.length := by omega
          have HJ2 : Aside0 (cc.all litR = true) := ⟨by have := HJ.out; rwa [List.take_length] at this⟩
          have HB1 : Aside0 (Lib.IsBuilderF 52 5 w.heap.size w.heap.size (Lib.byteCells (rowsT (l.take k) ++ cc.flatMap litT)) wr) := ⟨by have := HB.out; rwa [List.take_length] at this⟩
          have HLEN : Aside0 ((Lib.byteCells (rowsT (l.take k) ++ cc.flatMap litT)).length + (⟨#[48, 10]⟩ : ByteArray).size ≤ 140737488355328) := ⟨by
            have h1 := litsT_len cc HJ2.out
            have h3 := HL.out
            have h4 : (⟨#[48, 10]⟩ : ByteArray).size = 2 := rfl
            simp only [Lib.byteCells, List.length_map, List.length_append]
            omega⟩
          have HA2 : Aside0 (allR (l.take (k + 1)) = true) := ⟨by rw [H2.out, HA.out, HJ2.out]; rfl⟩
          clear HJ HB
          go_wp2_with (go_at_call 26; refine (HWS.out _ _ _ HW.out.size HB1.out HLEN.out).mono ?_; rintro e w2 ⟨rfl, hb2, hb3⟩; have HB2 := Aside0.mk hb2; have HW2 := Aside0.mk (HW.out.trans hb3); clear hb2 hb3)
          go_roundg (l.length - (k + 1))
          case measure => omega
          case rel => exact ⟨k + 1, by omega, by omega, by go_num, ⟨by
            have := HB2.out
            rw [show Lib.strCells ⟨#[48, 10]⟩ = Lib.byteCells [48, 10] from rfl, ← byteCells_append, List.append_assoc] at this
            rw [H1.out]
            exact this⟩, HW2, HA2⟩
    · obtain rfl : k = l.length := by omega
      have HA2 : Aside0 (allR l = true) := ⟨by have := HA.out; rwa [List.take_length] at this⟩
      have HB1 : Aside0 (Lib.IsBuilderF 52 5 w.heap.size w.heap.size (Lib.byteCells (rowsT l)) wr) := ⟨by have := HB.out; rwa [List.take_length] at this⟩
      have HST := Aside0.mk (Tryd.Builder_String_any_k w.heap.size w.heap.size (rowsT l) wr HB1.out HW.out.size)
      clear HA HB HB1
      go_wp2_with (go_at_call 28; refine (HST.out).mono ?_; rintro e w2 ⟨rfl, _, hb3, _⟩; have HW2 := Aside0.mk (HW.out.trans hb3); clear hb3)
      go_ret2
      exact ⟨by rw [HA2.out]; rfl, HW2.out⟩
end Go.Proofs.YtghecdmcghppnaaDoor
