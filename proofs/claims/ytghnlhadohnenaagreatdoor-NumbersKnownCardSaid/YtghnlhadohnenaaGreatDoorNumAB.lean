/- Numbers: plain laws of texts and of the order; the callees of the examples. -/
import Derived.Test.YtghnlhadohnenaaGreatDoorNumAA
import Derived.Test.YtghnlhadohnenaaGreatDoorNumN
namespace Go.Proofs.YtghnlhadohnenaaGreatDoor
open Go.Shelf Go.RowKit Go.Proofs.YtghnlhadohnenaaGreatDoorW.PrintWords Go.Proofs.YtghnlhadohnenaaGreatDoorW.PrintLast Go.Proofs.YtghnlhadohnenaaGreatDoorW.PrintMore
set_option linter.unusedVariables false
set_option linter.unusedSimpArgs false
set_option exponentiation.threshold 3000
theorem textR_inj {x y : Nat} (hx : x ≤ topR) (hy : y ≤ topR) (h : textR x = textR y) : x = y := by
  by_cases c : textR y = [105, 110, 102]
  · have e1 := text_inf (lt64 hy) (by rw [textW_pos hy, c])
    have e2 := text_inf (lt64 hx) (by rw [textW_pos hx, h, c])
    omega
  · have h1 := le_top hy rfl c
    have h2 := le_top hx h c
    obtain ⟨a, b, F, n, k, e1, e2, e3, e4, e5, e6, j, e7, e8⟩ := num_text h1 rfl
    obtain ⟨a', b', F', n', k', d1, d2, d3, d4, d5, d6, j', d7, d8⟩ := num_text h2 h
    rw [e1] at d1
    cases d1
    rw [e2] at d2
    cases d2
    have hk : k = k' := by
      rcases e4 with ⟨q1, q2⟩ | ⟨q1, q2⟩ <;> rcases d4 with ⟨q3, q4⟩ | ⟨q3, q4⟩
      · omega
      · rw [q1] at q3; cases q3
      · rw [q1] at q3; cases q3
      · rw [q2] at q4; cases q4; rfl
    have hj : j = j' := by omega
    exact mg_inj (by rw [e8, d8, hj])
theorem textR_head {y : Nat} (hy : y ≤ topR) : textR y ≠ [110, 97, 110] ∧ ∀ t, textR y ≠ 45 :: t := by
  obtain ⟨c, l, e, hc⟩ := headR hy
  refine ⟨fun h => ?_, fun t h => ?_⟩
  · rw [e] at h
    cases h
    rcases hc with hc | hc
    · cases hc
    · exact absurd hc (by decide)
  · rw [e] at h
    cases h
    rcases hc with hc | hc
    · cases hc
    · exact absurd hc (by decide)
theorem textW_inj {x y : Nat} (hx : x < 18446744073709551616) (hy : y < 18446744073709551616) (h : textW x = textW y) : x = y ∨ (nanB x = true ∧ nanB y = true) := by
  cases hn : nanB x with
  | true =>
    have e : textW x = [110, 97, 110] := by unfold textW; rw [hn]; rfl
    exact .inr ⟨rfl, text_nan (by rw [← h, e])⟩
  | false =>
    left
    have hk := rk_top hn
    have w1 := wd_eq hx
    have w2 := wd_eq hy
    cases hs : sb x with
    | true =>
      have e : textW x = 45 :: textR (rk x) := by unfold textW; rw [hn, hs]; rfl
      obtain ⟨k1, k2, k3⟩ := text_neg (h.symm.trans e)
      have := textR_inj (rk_top k1) hk k3
      rw [w1, w2, hs, k2, this]
    | false =>
      have e : textW x = textR (rk x) := by unfold textW; rw [hn, hs]; rfl
      rw [hs] at w1
      have w1' : x = rk x := w1
      obtain ⟨h1, h2⟩ := textR_head hk
      obtain ⟨k1, k2⟩ := text_pos hy (h.symm.trans e) h1 h2
      rw [w1']
      exact (textR_inj k1 hk k2).symm
theorem key_same {x y : Nat} (h : x = y ∨ (nanB x = true ∧ nanB y = true)) : key x = key y := by
  rcases h with h | ⟨h1, h2⟩
  · rw [h]
  · rw [key_nan h1, key_nan h2]
theorem cmpK_zero {x y : Nat} : cmpK x y = 0 ↔ key x = key y := by
  unfold cmpK
  rcases cmpI_cases (key x) (key y) with ⟨h1, h2⟩ | ⟨h1, h2⟩ | ⟨h1, h2⟩ <;> rw [h2] <;> omega
theorem cmpK_text {x y : Nat} (hx : x < 18446744073709551616) (hy : y < 18446744073709551616) : cmpK x y = 0 ↔ textW x = textW y := by
  rw [cmpK_zero]
  constructor
  · intro h
    rcases key_inj hx hy h with h | ⟨h1, h2⟩
    · rw [h]
    · unfold textW; rw [h1, h2]; rfl
  · exact fun h => key_same (textW_inj hx hy h)
theorem cmpK_turn (x y : Nat) : cmpK x y = -cmpK y x := cmpI_turn _ _
theorem cmpK_self (x : Nat) : cmpK x x = 0 := cmpK_zero.2 rfl
/-- A text that is printed is parsed as itself. -/
theorem parse_of {s : List UInt8} {r : Nat} {f : Int} {y : Nat} (hy : y < 18446744073709551616) (h : ParseP s r f) (ht : textW y = s) : f = 0 ∧ r < 18446744073709551616 ∧ cmpK y r = 0 := by
  rcases h with ⟨h1, h2, h3⟩ | ⟨_, _, h3⟩
  · exact ⟨h1, h2, (cmpK_text hy h2).2 (ht.trans h3.symm)⟩
  · exact absurd ht (h3 y hy)
theorem parse_two {s : List UInt8} {r r' : Nat} {f f' : Int} (h : ParseP s r f) (h' : ParseP s r' f') : f = f' ∧ r < 18446744073709551616 ∧ r' < 18446744073709551616 ∧ cmpK r r' = 0 := by
  rcases h with ⟨h1, h2, h3⟩ | ⟨h1, h2, h3⟩ <;> rcases h' with ⟨k1, k2, k3⟩ | ⟨k1, k2, k3⟩
  · exact ⟨by omega, h2, k2, (cmpK_text h2 k2).2 (h3.trans k3.symm)⟩
  · exact absurd h3 (k3 r h2)
  · exact absurd k3 (h3 r' k2)
  · exact ⟨by omega, by omega, by omega, by rw [h2, k2]; exact cmpK_self 0⟩
theorem no_text {t : List UInt8} (h1 : t ≠ [110, 97, 110]) (h2 : ∀ r, t ≠ 45 :: r) (h3 : t ≠ [105, 110, 102]) (a b : List UInt8) (F : Bool) (n : Nat) (k : Int) (Y : Nat) (j : Nat)
    (e1 : Lib.cut t [112] = (a, b, F)) (e2 : Lib.parseUintB 53 a = .ok n) (e3 : (F = false ∧ k = 0) ∨ (F = true ∧ Lib.atoiAll b = .ok k)) (e4 : (j : Int) = k + 1074) (e5 : mg Y = n * 2 ^ j) (e6 : textR Y ≠ t) :
    ∀ y, y < 18446744073709551616 → textW y ≠ t := by
  intro y hy ht
  obtain ⟨k1, k2⟩ := text_pos hy ht h1 h2
  have k3 := le_top k1 k2 h3
  obtain ⟨a', b', F', n', k', d1, d2, d3, d4, d5, d6, j', d7, d8⟩ := num_text k3 k2
  rw [e1] at d1
  cases d1
  rw [e2] at d2
  cases d2
  have hk : k = k' := by
    rcases e3 with ⟨q1, q2⟩ | ⟨q1, q2⟩ <;> rcases d4 with ⟨q3, q4⟩ | ⟨q3, q4⟩
    · omega
    · rw [q1] at q3; cases q3
    · rw [q1] at q3; cases q3
    · rw [q2] at q4; cases q4; rfl
  have hj : j = j' := by omega
  exact e6 (by rw [show Y = y from mg_inj (by rw [e5, d8, hj]), k2])
theorem parse_one {r : Nat} {f : Int} (h : ParseP [49, 112, 45, 49, 48, 55, 52] r f) : f = 0 ∧ r = 1 := by
  have ht : textW 1 = [49, 112, 45, 49, 48, 55, 52] := by decide +kernel
  obtain ⟨h1, h2, h3⟩ := parse_of (y := 1) (by omega) h ht
  refine ⟨h1, ?_⟩
  rcases key_inj (by omega) h2 (cmpK_zero.1 h3) with h | ⟨h, _⟩
  · exact h.symm
  · exact absurd h (by decide)
theorem parse_01 {r : Nat} {f : Int} (h : ParseP [48, 49] r f) : f = 210 ∧ r = 0 := by
  have hn := no_text (t := [48, 49]) (by decide) (fun r => by simp) (by decide) [48, 49] [] false 1 0 4607182418800017408 1074 (by decide) (by decide) (.inl ⟨rfl, rfl⟩) (by omega) (by rw [mg_one, Nat.one_mul]) (by decide +kernel)
  rcases h with ⟨h1, h2, h3⟩ | ⟨h1, h2, _⟩
  · exact absurd h3 (hn r h2)
  · exact ⟨h1, h2⟩
theorem mg_16 : mg 4625196817309499392 = 2 * 2 ^ 1077 := by decide +kernel
theorem parse_2p3 {r : Nat} {f : Int} (h : ParseP [50, 112, 51] r f) : f = 210 ∧ r = 0 := by
  have hn := no_text (t := [50, 112, 51]) (by decide) (fun r => by simp) (by decide) [50] [51] true 2 3 4625196817309499392 1077 (by decide) (by decide) (.inr ⟨rfl, by decide⟩) (by omega) mg_16 (by decide +kernel)
  rcases h with ⟨h1, h2, h3⟩ | ⟨h1, h2, _⟩
  · exact absurd h3 (hn r h2)
  · exact ⟨h1, h2⟩
/-- Callees at one base world. -/
def At (w : World) (f : Nat) (args : Array Value) (v : Value) : Prop := ∀ W, Below w.heap.size w W → Calls Tryz.prog f args W fun e w' => e = .returned v ∧ Below w.heap.size w w'
theorem at_quiet {w : World} {f : Nat} {args : Array Value} {v : Value} (h : ∀ W, Calls Tryz.prog f args W fun e w' => e = .returned v ∧ w' = W) : At w f args v := fun W hb => (h W).mono fun e w' ⟨h1, h2⟩ => ⟨h1, by rw [h2]; exact hb⟩
theorem at_below {w : World} {f : Nat} {args : Array Value} {v : Value} (h : ∀ W, Calls Tryz.prog f args W fun e w' => e = .returned v ∧ Below W.heap.size W w') : At w f args v := fun W hb => (h W).mono fun e w' ⟨h1, h2⟩ => ⟨h1, hb.trans (h2.mono hb.size)⟩
theorem at_tabs {w : World} {f : Nat} {args : Array Value} {v : Value} (hT : NTabs w) (h : ∀ W, NTabs W → Calls Tryz.prog f args W fun e w' => e = .returned v ∧ Below W.heap.size W w') : At w f args v := fun W hb => (h W (hT.below hb)).mono fun e w' ⟨h1, h2⟩ => ⟨h1, hb.trans (h2.mono hb.size)⟩
theorem at_print {w : World} (hT : NTabs w) {x : Nat} (hx : x < 18446744073709551616) {l : List UInt8} (h : textW x = l) : At w 13 #[.float .f64 x] (.string ⟨l.toArray⟩) := at_tabs hT fun W hN => by
  have := Print_any x hx W hN
  rw [h] at this
  exact this
theorem at_parse {w : World} (hT : NTabs w) (s : ByteArray) (hs : s.size ≤ 1000000) (r : Nat) (f : Int) (h : ∀ r' f', ParseP s.data.toList r' f' → f' = f ∧ r' = r) : At w 14 #[.string s] (.tuple #[.float .f64 r, .int .i64 f]) := at_tabs hT fun W hN =>
  (Parse_any s hs W hN).mono fun e w' ⟨r', f', h1, h2, h3⟩ => by
    obtain ⟨rfl, rfl⟩ := h r' f' h2
    exact ⟨h1, h3⟩
theorem at_cmp {w : World} {x y : Nat} (hx : x < 18446744073709551616) (hy : y < 18446744073709551616) {c : Int} (h : cmpK x y = c) : At w 22 #[.float .f64 x, .float .f64 y] (.int .i64 c) := at_quiet fun W => by rw [← h]; exact Compare_any x y hx hy W
theorem at_same {w : World} {x y : Nat} (hx : x < 18446744073709551616) (hy : y < 18446744073709551616) {c : Bool} (h : decide (cmpK x y = 0) = c) : At w 20 #[.float .f64 x, .float .f64 y] (.bool c) := at_quiet fun W => by rw [← h]; exact Same_any x y hx hy W
theorem at_down {w : World} {x r : Nat} (hx : x < 18446744073709551616) (hn : nanB x = false) (h : wd (sb x) (flR (sb x) (rk x)) = r) : At w 19 #[.float .f64 x] (.float .f64 r) := at_below fun W =>
  (Down_any x hx W).mono fun e w' ⟨r', h1, h2, h3⟩ => by
    rcases h2.2 with ⟨h4, _⟩ | ⟨_, h4⟩
    · rw [hn] at h4; cases h4
    · exact ⟨by rw [h1, h4, h], h3⟩
theorem at_do {w : World} {op : Int} {a b r : Nat} {o : BinOp} (ho : opD op = some o) (h : floatBits o .f64 a b = some r) : At w 24 #[.int .u8 op, .float .f64 a, .float .f64 b] (.tuple #[.float .f64 r, .bool true]) := at_below fun W =>
  (Do_any op a b W).mono fun e w' ⟨r', h1, h2, h3, h4⟩ => by
    rw [ho] at h1 h3
    simp only [isRes] at h3
    rcases h3 with h3 | ⟨h3, _⟩
    · rw [h] at h3
      cases h3
      exact ⟨h1, h4⟩
    · rw [h] at h3
      cases h3
end Go.Proofs.YtghnlhadohnenaaGreatDoor
