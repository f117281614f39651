/- numbers.Parse at any text. -/
import Derived.Test.YtghnlhadohnenaaGreatDoorNumZ
import Derived.Test.YtghnlhadohnenaaGreatDoorNumE
namespace Go.Proofs.YtghnlhadohnenaaGreatDoor
set_option exponentiation.threshold 3000
open Go.Shelf Go.RowKit Go.Proofs.YtghnlhadohnenaaGreatDoorW.PrintWords Go.Proofs.YtghnlhadohnenaaGreatDoorW.PrintLast Go.Proofs.YtghnlhadohnenaaGreatDoorW.PrintMore
set_option linter.unusedVariables false
set_option linter.unusedSimpArgs false
theorem textW_pos {y : Nat} (hy : y ≤ topR) : textW y = textR y := by
  have h : y < 9223372036854775808 := by unfold topR at hy; omega
  have h1 : nanB y = false := nan_wd (s := false) hy
  have h2 : sb y = false := wd_sb (s := false) h
  have h3 : rk y = y := wd_rk (s := false) h
  unfold textW
  rw [h1, h2, h3]
  rfl
theorem lt64 {y : Nat} (hy : y ≤ topR) : y < 18446744073709551616 := by unfold topR at hy; omega
theorem mk_size (a : List UInt8) : (⟨a.toArray⟩ : ByteArray).size = a.length := by
  rw [Lib.size_eq]
theorem Parse_any (s : ByteArray) (hs : s.size ≤ 1000000) (w : World) (hT : NTabs w) : Calls Tryz.prog 14 #[.string s] w (ParseE s w) := by
  obtain ⟨T, M, hcut0, hTs, hcp⟩ := minusP s
  have hcut : (M = true ∧ s.data.toList = 45 :: T.data.toList) ∨ (M = false ∧ T.data.toList = s.data.toList ∧ ∀ r, s.data.toList ≠ 45 :: r) := by
    rcases hcut0 with h | ⟨h1, h2, h3⟩
    · exact .inl h
    · exact .inr ⟨h1, by rw [h2], h3⟩
  have hF : PF s T M w := ⟨hcp, fun x hx => lift (fun W hN => Print_any x hx W hN) hT⟩
  by_cases c1 : T.data.toList = [110, 97, 110]
  · exact parse_nan s T M w hF (by rw [Lib.toList_data]; exact c1) 9221120237041090561 (by decide) NaN_any (finP (by decide) hcut (.inl ⟨c1, by decide⟩))
  · by_cases c2 : T.data.toList = [105, 110, 102]
    · refine parse_inf s T M w hF (by rw [Lib.toList_data]; exact c2) topR (by decide) Inf_any (finP (by decide) hcut (.inr ⟨c1, fun y hy h => ?_⟩))
      exact text_inf (lt64 hy) (by rw [textW_pos hy, h, c2])
    · have h1 : (T.toList == [110, 97, 110]) = false := by rw [Lib.toList_data]; simpa using c1
      have h2 : (T.toList == [105, 110, 102]) = false := by rw [Lib.toList_data]; simpa using c2
      have hsl := Lib.size_eq T
      rcases hc : Lib.cut T.data.toList [112] with ⟨a, b, F⟩
      obtain ⟨hla, hlb⟩ := cut_len hc
      have hC : CutC a b F T w := lift (fun W hN => cutP T (by omega) a b F hc W hN) hT
      have hnum : ∀ y, y ≤ topR → textR y = T.data.toList → ∃ n k, Lib.parseUintB 53 a = .ok n ∧ n < 9007199254740992 ∧ ((F = false ∧ k = 0) ∨ (F = true ∧ Lib.atoiAll b = .ok k)) ∧ -1074 ≤ k ∧ k ≤ 1100 ∧ (∃ j : Nat, (j : Int) = k + 1074 ∧ mg y = n * 2 ^ j) ∧ y < topR := by
        intro y hy ht
        have hlt := le_top hy ht c2
        obtain ⟨a', b', F', n, k, e1, e2, e3, e4, e5, e6, e7⟩ := num_text hlt ht
        rw [hc] at e1
        cases e1
        exact ⟨n, k, e2, e3, e4, e5, e6, e7, hlt⟩
      have href : (∀ y, y ≤ topR → textR y ≠ T.data.toList) → ParseP s.data.toList 0 210 := fun h => .inr ⟨rfl, rfl, parse_none hcut c1 h⟩
      have hU : ∀ W, NTabs W → Calls Tryz.prog 41 #[.string ⟨a.toArray⟩, .int .i64 10, .int .i64 53] W fun e w' => ParsedUint (Lib.parseUintB 53 a) e ∧ Below W.heap.size W w' := fun W hN => ParseUint53 ⟨a.toArray⟩ (by rw [mk_size]; omega) W hN.vt.es hN.vt.er
      have hA : ∀ W, NTabs W → Calls Tryz.prog 42 #[.string ⟨b.toArray⟩] W fun e w' => (∃ v ev, e = .returned (.tuple #[.int .i64 v, ev]) ∧ ((ev = .nilIface ∧ Lib.atoiAll b = .ok v) ∨ ((∃ p, ev = .iface 90 p) ∧ ∀ u, Lib.atoiAll b ≠ .ok u))) ∧ Below W.heap.size W w' := fun W hN => (atoi_any ⟨b.toArray⟩ (by rw [mk_size]; omega) W hN.vt).mono fun e w' ⟨v, ev, e1, e2, e3⟩ => ⟨⟨v, ev, e1, e3⟩, e2⟩
      have hA0 : AtoiC b w (fun e => ∃ v ev, e = .returned (.tuple #[.int .i64 v, ev])) := fun W hb => (lift hA hT W hb).mono fun e w' ⟨⟨v, ev, e1, _⟩, e2⟩ => ⟨⟨v, ev, e1⟩, e2⟩
      by_cases hex : ∃ n, Lib.parseUintB 53 a = .ok n
      case neg =>
        have hr := href (fun y hy h => by
          obtain ⟨n, k, e1, _⟩ := hnum y hy h
          exact hex ⟨n, e1⟩)
        have hU1 : UintC a w (fun e => ∃ u tt pp, e = .returned (.tuple #[.int .u64 u, .iface tt (.pointer (some pp))])) := fun W hb => (lift hU hT W hb).mono fun e w' ⟨e1, e2⟩ => ⟨by
          rcases e1 with ⟨u, e3, _⟩ | ⟨_, u, tt, pp, e3⟩
          · exact absurd ⟨u, e3⟩ hex
          · exact ⟨u, tt, pp, e3⟩, e2⟩
        cases F
        · exact parse_r1 s T M w hF h1 h2 a b hC hU1 hr
        · exact parse_r2 s T M w hF h1 h2 a b hC hU1 hA0 hr
      case pos =>
        obtain ⟨n, hu⟩ := hex
        have hn := uint53_lt hu
        have hU1 : UintC a w (fun e => e = .returned (.tuple #[.int .u64 ((n : Nat) : Int), .nilIface])) := fun W hb => (lift hU hT W hb).mono fun e w' ⟨e1, e2⟩ => ⟨by
          rcases e1 with ⟨u, e3, e4⟩ | ⟨e3, _⟩
          · rw [hu] at e3; cases e3; exact e4
          · exact absurd hu (e3 n), e2⟩
        have hfin : ∀ k : Int, ((F = false ∧ k = 0) ∨ (F = true ∧ Lib.atoiAll b = .ok k)) → ∀ x, x < 18446744073709551616 → nanB x = false → Scale n k x → FinP s M x := fun k hk x hx hx1 hS => finP hx hcut (.inr ⟨c1, fun y hy h => by
          obtain ⟨n', k', e1, e2, e3, e4, e5, ⟨j, e6, e7⟩, e8⟩ := hnum y hy h
          rw [hu] at e1
          cases e1
          have hkk : k' = k := by
            rcases e3 with ⟨q1, q2⟩ | ⟨q1, q2⟩ <;> rcases hk with ⟨q3, q4⟩ | ⟨q3, q4⟩
            · omega
            · rw [q1] at q3; cases q3
            · rw [q1] at q3; cases q3
            · rw [q2] at q4; cases q4; rfl
          rw [hkk] at e6
          exact hS n j y rfl hn e8 e6 e7⟩)
        cases F with
        | false => exact parse_s1 s T M w hF h1 h2 a b hC n hn hU1 (hfin 0 (.inl ⟨rfl, rfl⟩))
        | true =>
          have hA1 : ∀ v, Lib.atoiAll b = .ok v → AtoiC b w (fun e => e = .returned (.tuple #[.int .i64 v, .nilIface])) := fun v hv W hb => (lift hA hT W hb).mono fun e w' ⟨⟨v', ev, e1, e3⟩, e2⟩ => ⟨by
            rcases e3 with ⟨e4, e5⟩ | ⟨_, e5⟩
            · rw [hv] at e5; cases e5; rw [e1, e4]
            · exact absurd hv (e5 v), e2⟩
          have hkr : ∀ y, y ≤ topR → textR y = T.data.toList → ∃ k, Lib.atoiAll b = .ok k ∧ -1074 ≤ k ∧ k ≤ 1100 := fun y hy h => by
            obtain ⟨n', k', e1, e2, e3, e4, e5, _⟩ := hnum y hy h
            rcases e3 with ⟨q1, _⟩ | ⟨_, q2⟩
            · cases q1
            · exact ⟨k', q2, e4, e5⟩
          by_cases hey : ∃ k, Lib.atoiAll b = .ok k
          case neg =>
            have hA2 : AtoiC b w (fun e => ∃ v pp, e = .returned (.tuple #[.int .i64 v, .iface 90 pp])) := fun W hb => (lift hA hT W hb).mono fun e w' ⟨⟨v', ev, e1, e3⟩, e2⟩ => ⟨by
              rcases e3 with ⟨_, e5⟩ | ⟨⟨p, e4⟩, _⟩
              · exact absurd ⟨v', e5⟩ hey
              · exact ⟨v', p, by rw [e1, e4]⟩, e2⟩
            exact parse_r3 s T M w hF h1 h2 a b hC n hU1 hA2 (href (fun y hy h => by
              obtain ⟨k, e, _⟩ := hkr y hy h
              exact hey ⟨k, e⟩))
          case pos =>
            obtain ⟨k, ha⟩ := hey
            by_cases k1 : 2000 < k
            · exact parse_r4 s T M w hF h1 h2 a b hC n k k1 hU1 (hA1 k ha) (href (fun y hy h => by
                obtain ⟨k', e, e2, e3⟩ := hkr y hy h
                rw [ha] at e
                cases e
                omega))
            · by_cases k2 : k < -2000
              · exact parse_r5 s T M w hF h1 h2 a b hC n k k2 hU1 (hA1 k ha) (href (fun y hy h => by
                  obtain ⟨k', e, e2, e3⟩ := hkr y hy h
                  rw [ha] at e
                  cases e
                  omega))
              · exact parse_s2 s T M w hF h1 h2 a b hC n hn k (by omega) (by omega) hU1 (hA1 k ha) (hfin k (.inr ⟨rfl, ha⟩))
end Go.Proofs.YtghnlhadohnenaaGreatDoor
