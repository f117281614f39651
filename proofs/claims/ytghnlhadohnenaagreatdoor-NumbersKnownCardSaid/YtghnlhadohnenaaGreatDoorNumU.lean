/- The reference's value: the walk at a text with no sign, no nan, no inf; any text. -/
import Derived.Test.YtghnlhadohnenaaGreatDoorNumS
import Derived.Outline
namespace Go.Proofs.YtghnlhadohnenaaGreatDoor
set_option exponentiation.threshold 3000
open Go.Shelf Go.RowKit Go.Proofs.YtghnlhadohnenaaGreatDoorW.PrintWords Go.Proofs.YtghnlhadohnenaaGreatDoorW.PrintLast Go.Proofs.YtghnlhadohnenaaGreatDoorW.PrintMore
set_option linter.unusedVariables false
set_option linter.unusedSimpArgs false
set_option maxHeartbeats 2000000 in
set_option maxRecDepth 100000 in
theorem value_pos (s : ByteArray) (hs5 : s.size ≤ 100000) (hpos : 0 < s.size) (c2 : bt s 0 ≠ 45) (h1' : s.data.toList ≠ [110, 97, 110]) (h3' : s.data.toList ≠ [105, 110, 102]) (w : World) : Calls Tryz.prog 57 #[.string s] w (ValE s w) := by
  obtain ⟨hne, hne2⟩ := ne_empty hpos
  have c1b : (s.toList == [110, 97, 110]) = false := by rw [Lib.toList_data]; simpa using h1'
  have c3b : (s.toList == [105, 110, 102]) = false := by rw [Lib.toList_data]; simpa using h3'
  have c2c := byte0 hpos false (by simpa using c2)
  have h2' : ∀ t, s.data.toList ≠ 45 :: t := fun t h => by
    have hsl := Lib.size_eq s
    have hil : 0 < s.data.toList.length := by omega
    have := bt_nat s 0 hil
    have e : s.data.toList[0] = 45 := by simp [h]
    rw [e] at this
    exact c2 this
  have HF := Aside0.mk (fun i hA => facts_of hs5 (i := i) hA h1' h2' h3')
  have HFN := Aside0.mk (fun i hA => factsE_neg hs5 (i := i) hA h1' h2' h3')
  have HFP := Aside0.mk (fun i hA => factsE_pos hs5 (i := i) hA h1' h2' h3')
  clear h1' h2' h3' c2
  go_enter Tryz.func57, Tryz.ntmps57
  go_wp2
  go_loopg [5] s.size (fun gg s5 wr => ∃ i : Nat, i ≤ s.size ∧ s.size - i ≤ gg ∧ s5 = .int .i64 i ∧ Aside0 ((112 : UInt8) ∉ s.data.toList.take i) ∧ wr = w)
  case atStart => exact ⟨0, Nat.zero_le _, by omega, rfl, Aside0.mk (by simp), rfl⟩
  case round =>
    obtain ⟨i, hi, hgg, rfl, HNO, hw_⟩ := hrel
    obtain rfl := hw_.symm
    rcases Nat.lt_or_ge i s.size with hlt | hge
    · have hltz : (i : Int) < (s.size : Int) := by omega
      by_cases hb : s[i].toNat = 112
      · have hbz : (((s[i].toNat : Nat) : Int) != 112) = false := by simp [hb]
        have HA := Aside0.mk (at_p hlt HNO.out hb)
        obtain ⟨x, hF⟩ := HF.out i HA.out
        have hie : ((i : Int) == (s.size : Int)) = false := by simp; omega
        cases hok : (numF (s.data.toList.take i)).2 with
        | false =>
          rw [hok] at hF
          generalize (numF (s.data.toList.take i)).1 = mv at *
          have HX := Aside0.mk (hF.val (.inl rfl))
          have HN := Aside0.mk hF.num
          have hx := hF.flt
          clear hF HF HFN HFP HNO hgg hok hb
          go_wp2_with (go_at_call 77; (with_reducible refine (HN.out _).mono ?_); rintro e w1 ⟨rfl, hb⟩; have HB1 := Aside0.mk hb; clear hb)
          go_ret
          exact ⟨x, rfl, HX.out, HB1.out⟩
        | true =>
          rw [hok] at hF
          by_cases hsg : ∃ (h : i + 1 < s.size), s[i + 1].toNat = 45
          · obtain ⟨hlt1, hsb⟩ := hsg
            have hE := HFN.out i HA.out hlt1 hsb
            generalize (numF (s.data.toList.take i)).1 = mv at *
            generalize (numF (s.data.toList.drop (i + 2))).1 = ev at *
            generalize (numF (s.data.toList.drop (i + 2))).2 = isv at *
            have HN := Aside0.mk hF.num
            have HN2 := Aside0.mk hE.num
            have HV0 := Aside0.mk hE.none
            have HSC := Aside0.mk (fun h => by have := hE.some h; rw [show (-1 : Int) * ev = -ev by omega] at this; exact this)
            have hlo := hE.lo
            have hhi := hE.hi
            have hsbz : (((s[i + 1].toNat : Nat) : Int) == 45) = true := by simp [hsb]
            have hlt1z : (i : Int) + 1 < (s.size : Int) := by omega
            clear hF hE HF HFN HFP HNO hgg hok hb hsb HA
            cases isv with
            | false =>
              have HX := Aside0.mk (HV0.out (.inl rfl))
              go_wp2_with (first | (go_at_call 77; (with_reducible refine (HN.out _).mono ?_); rintro e w1 ⟨rfl, hb⟩; have HB1 := Aside0.mk hb; clear hb) | (go_at_call 77; (with_reducible refine (HN2.out _).mono ?_); rintro e w2 ⟨rfl, hb⟩; have HB2 := Aside0.mk hb; clear hb))
              go_ret
              exact ⟨0, rfl, HX.out, HB1.out.trans (HB2.out.mono HB1.out.size)⟩
            | true =>
              by_cases hev : 1200 < ev
              · have HX := Aside0.mk (HV0.out (.inr hev))
                go_wp2_with (first | (go_at_call 77; (with_reducible refine (HN.out _).mono ?_); rintro e w1 ⟨rfl, hb⟩; have HB1 := Aside0.mk hb; clear hb) | (go_at_call 77; (with_reducible refine (HN2.out _).mono ?_); rintro e w2 ⟨rfl, hb⟩; have HB2 := Aside0.mk hb; clear hb))
                go_ret
                exact ⟨0, rfl, HX.out, HB1.out.trans (HB2.out.mono HB1.out.size)⟩
              · have hevl : ev ≤ 1200 := by omega
                have HS := Aside0.mk (HSC.out hevl)
                go_wp2_with (first | (go_at_call 77; (with_reducible refine (HN.out _).mono ?_); rintro e w1 ⟨rfl, hb⟩; have HB1 := Aside0.mk hb; clear hb) | (go_at_call 77; (with_reducible refine (HN2.out _).mono ?_); rintro e w2 ⟨rfl, hb⟩; have HB2 := Aside0.mk hb; clear hb) | (go_at_call 78; (with_reducible refine (HS.out _).mono ?_); rintro e w3 ⟨r, rfl, hV, hw3⟩; obtain rfl := hw3.symm; have HV := Aside0.mk hV; clear hV))
                go_ret
                exact ⟨r, rfl, HV.out, HB1.out.trans (HB2.out.mono HB1.out.size)⟩
          · rcases Nat.lt_or_ge (i + 1) s.size with hlt1 | hge1
            · have hsb : s[i + 1].toNat ≠ 45 := fun h => hsg ⟨hlt1, h⟩
              have hE := HFP.out i HA.out hlt (fun _ => hsb)
              generalize (numF (s.data.toList.take i)).1 = mv at *
              generalize (numF (s.data.toList.drop (i + 1))).1 = ev at *
              generalize (numF (s.data.toList.drop (i + 1))).2 = isv at *
              have HN := Aside0.mk hF.num
              have HN2 := Aside0.mk hE.num
              have HV0 := Aside0.mk hE.none
              have HSC := Aside0.mk (fun h => by have := hE.some h; rw [Int.one_mul] at this; exact this)
              have hlo := hE.lo
              have hhi := hE.hi
              have hsbz : (((s[i + 1].toNat : Nat) : Int) == 45) = false := by simp; omega
              have hlt1z : (i : Int) + 1 < (s.size : Int) := by omega
              clear hF hE HF HFN HFP HNO hgg hok hb hsb HA hsg
              cases isv with
              | false =>
                have HX := Aside0.mk (HV0.out (.inl rfl))
                go_wp2_with (first | (go_at_call 77; (with_reducible refine (HN.out _).mono ?_); rintro e w1 ⟨rfl, hb⟩; have HB1 := Aside0.mk hb; clear hb) | (go_at_call 77; (with_reducible refine (HN2.out _).mono ?_); rintro e w2 ⟨rfl, hb⟩; have HB2 := Aside0.mk hb; clear hb))
                go_ret
                exact ⟨0, rfl, HX.out, HB1.out.trans (HB2.out.mono HB1.out.size)⟩
              | true =>
                by_cases hev : 1200 < ev
                · have HX := Aside0.mk (HV0.out (.inr hev))
                  go_wp2_with (first | (go_at_call 77; (with_reducible refine (HN.out _).mono ?_); rintro e w1 ⟨rfl, hb⟩; have HB1 := Aside0.mk hb; clear hb) | (go_at_call 77; (with_reducible refine (HN2.out _).mono ?_); rintro e w2 ⟨rfl, hb⟩; have HB2 := Aside0.mk hb; clear hb))
                  go_ret
                  exact ⟨0, rfl, HX.out, HB1.out.trans (HB2.out.mono HB1.out.size)⟩
                · have hevl : ev ≤ 1200 := by omega
                  have HS := Aside0.mk (HSC.out hevl)
                  go_wp2_with (first | (go_at_call 77; (with_reducible refine (HN.out _).mono ?_); rintro e w1 ⟨rfl, hb⟩; have HB1 := Aside0.mk hb; clear hb) | (go_at_call 77; (with_reducible refine (HN2.out _).mono ?_); rintro e w2 ⟨rfl, hb⟩; have HB2 := Aside0.mk hb; clear hb) | (go_at_call 78; (with_reducible refine (HS.out _).mono ?_); rintro e w3 ⟨r, rfl, hV, hw3⟩; obtain rfl := hw3.symm; have HV := Aside0.mk hV; clear hV))
                  go_ret
                  exact ⟨r, rfl, HV.out, HB1.out.trans (HB2.out.mono HB1.out.size)⟩
            · have hE := HFP.out i HA.out hlt (fun h => by omega)
              generalize (numF (s.data.toList.take i)).1 = mv at *
              generalize (numF (s.data.toList.drop (i + 1))).1 = ev at *
              generalize (numF (s.data.toList.drop (i + 1))).2 = isv at *
              have HN := Aside0.mk hF.num
              have HN2 := Aside0.mk hE.num
              have HV0 := Aside0.mk hE.none
              have HSC := Aside0.mk (fun h => by have := hE.some h; rw [Int.one_mul] at this; exact this)
              have hlo := hE.lo
              have hhi := hE.hi
              have hlt1z : ¬ (i : Int) + 1 < (s.size : Int) := by omega
              clear hF hE HF HFN HFP HNO hgg hok hb HA hsg
              cases isv with
              | false =>
                have HX := Aside0.mk (HV0.out (.inl rfl))
                go_wp2_with (first | (go_at_call 77; (with_reducible refine (HN.out _).mono ?_); rintro e w1 ⟨rfl, hb⟩; have HB1 := Aside0.mk hb; clear hb) | (go_at_call 77; (with_reducible refine (HN2.out _).mono ?_); rintro e w2 ⟨rfl, hb⟩; have HB2 := Aside0.mk hb; clear hb))
                go_ret
                exact ⟨0, rfl, HX.out, HB1.out.trans (HB2.out.mono HB1.out.size)⟩
              | true =>
                by_cases hev : 1200 < ev
                · have HX := Aside0.mk (HV0.out (.inr hev))
                  go_wp2_with (first | (go_at_call 77; (with_reducible refine (HN.out _).mono ?_); rintro e w1 ⟨rfl, hb⟩; have HB1 := Aside0.mk hb; clear hb) | (go_at_call 77; (with_reducible refine (HN2.out _).mono ?_); rintro e w2 ⟨rfl, hb⟩; have HB2 := Aside0.mk hb; clear hb))
                  go_ret
                  exact ⟨0, rfl, HX.out, HB1.out.trans (HB2.out.mono HB1.out.size)⟩
                · have hevl : ev ≤ 1200 := by omega
                  have HS := Aside0.mk (HSC.out hevl)
                  go_wp2_with (first | (go_at_call 77; (with_reducible refine (HN.out _).mono ?_); rintro e w1 ⟨rfl, hb⟩; have HB1 := Aside0.mk hb; clear hb) | (go_at_call 77; (with_reducible refine (HN2.out _).mono ?_); rintro e w2 ⟨rfl, hb⟩; have HB2 := Aside0.mk hb; clear hb) | (go_at_call 78; (with_reducible refine (HS.out _).mono ?_); rintro e w3 ⟨r, rfl, hV, hw3⟩; obtain rfl := hw3.symm; have HV := Aside0.mk hV; clear hV))
                  go_ret
                  exact ⟨r, rfl, HV.out, HB1.out.trans (HB2.out.mono HB1.out.size)⟩
      · have hbz : (((s[i].toNat : Nat) : Int) != 112) = true := by simp; omega
        have HNO2 := Aside0.mk (no_p hlt HNO.out hb)
        clear HNO hb HF HFN HFP
        go_wp2
        go_roundg (s.size - (i + 1))
        case measure => omega
        case rel => exact ⟨i + 1, by omega, by omega, by go_num, HNO2, rfl⟩
    · have hie : i = s.size := by omega
      have hA : AtP s.data.toList i := ⟨by rw [← Lib.size_eq]; omega, HNO.out, fun h => by rw [← Lib.size_eq] at h; omega⟩
      obtain ⟨x, hF⟩ := HF.out i hA
      have hN := hF.num
      rw [show s.extract 0 i = s by rw [hie]; exact ByteArray.extract_zero_size] at hN
      have HN := Aside0.mk hN
      have HX := Aside0.mk (hF.val (.inr hie))
      have hx := hF.flt
      generalize (numF (s.data.toList.take i)).1 = mv at *
      generalize (numF (s.data.toList.take i)).2 = ok at *
      clear hA hF hN HF HFN HFP HNO hgg
      subst hie
      cases ok with
      | true =>
        go_wp2_with (go_at_call 77; (with_reducible refine (HN.out _).mono ?_); rintro e w1 ⟨rfl, hb⟩; have HB1 := Aside0.mk hb; clear hb)
        go_ret
        exact ⟨x, rfl, HX.out, HB1.out⟩
      | false =>
        go_wp2_with (go_at_call 77; (with_reducible refine (HN.out _).mono ?_); rintro e w1 ⟨rfl, hb⟩; have HB1 := Aside0.mk hb; clear hb)
        go_ret
        exact ⟨x, rfl, HX.out, HB1.out⟩
theorem value_any : ∀ (n : Nat) (s : ByteArray), s.size = n → n ≤ 100000 → ∀ w : World, Calls Tryz.prog 57 #[.string s] w (ValE s w) := by
  intro n
  induction n with
  | zero => exact fun s hs _ w => value_nil s hs w
  | succ n ih =>
    intro s hs hn w
    by_cases c1 : s.toList = [110, 97, 110]
    · exact value_nan s c1 w
    · by_cases c2 : bt s 0 = 45
      · exact value_neg s (by omega) c1 c2 (ih (s.extract 1 s.size) (by rw [ByteArray.size_extract]; omega) (by omega)) w
      · by_cases c3 : s.toList = [105, 110, 102]
        · exact value_inf s (by omega) c2 c3 w
        · exact value_pos s (by omega) (by omega) c2 (by rw [← Lib.toList_data]; exact c1) (by rw [← Lib.toList_data]; exact c3) w
end Go.Proofs.YtghnlhadohnenaaGreatDoor
