/- Numbers: the laws Print, Parse, Compare, Do: the walks. -/
import Derived.Test.YtghnlhadohnenaaGreatDoorNumAC
namespace Go.Proofs.YtghnlhadohnenaaGreatDoor
set_option exponentiation.threshold 3000
open Go.Shelf Go.RowKit Go.Proofs.YtghnlhadohnenaaGreatDoorW.PrintWords Go.Proofs.YtghnlhadohnenaaGreatDoorW.PrintLast Go.Proofs.YtghnlhadohnenaaGreatDoorW.PrintMore
set_option linter.unusedVariables false
set_option linter.unusedSimpArgs false
def LawE (w : World) (e : Ending) (w' : World) : Prop := e = .returned (.bool true) ∧ Below w.heap.size w w'
theorem at_works {w : World} (hT : NTabs w) : At w 12 #[] (.bool true) := at_tabs hT works_any
theorem at_printW {w : World} (hT : NTabs w) {x : Nat} (hx : x < 18446744073709551616) : At w 13 #[.float .f64 x] (.string ⟨(textW x).toArray⟩) := at_print hT hx rfl
theorem at_refPrint {w : World} {x : Nat} (hx : x < 18446744073709551616) : At w 15 #[.float .f64 x] (.string ⟨(textW x).toArray⟩) := at_below fun W => refPrint_any x hx W
theorem at_refSame {w : World} {x y : Nat} (hx : x < 18446744073709551616) (hy : y < 18446744073709551616) {c : Bool} (h : decide (cmpK x y = 0) = c) : At w 16 #[.float .f64 x, .float .f64 y] (.bool c) := at_quiet fun W => by rw [← h]; exact refSame_any x y hx hy W
theorem at_refCmp {w : World} {x y : Nat} (hx : x < 18446744073709551616) (hy : y < 18446744073709551616) {c : Int} (h : cmpK x y = c) : At w 23 #[.float .f64 x, .float .f64 y] (.int .i64 c) := at_quiet fun W => by rw [← h]; exact refCompare_any x y hx hy W
def AtQ (w : World) (f : Nat) (args : Array Value) (Q : Ending → Prop) : Prop := ∀ W, Below w.heap.size w W → Calls Tryz.prog f args W fun e w' => Q e ∧ Below w.heap.size w w'
theorem atq_parse {w : World} (hT : NTabs w) (s : ByteArray) (hs : s.size ≤ 1000000) : AtQ w 14 #[.string s] (fun e => ∃ r f, e = .returned (.tuple #[.float .f64 r, .int .i64 f]) ∧ ParseP s.data.toList r f) := lift (fun W hN => (Parse_any s hs W hN).mono fun e w' ⟨r, f, h1, h2, h3⟩ => ⟨⟨r, f, h1, h2⟩, h3⟩) hT
theorem atq_refParse {w : World} (s : ByteArray) (hs : s.size ≤ 100000) : AtQ w 30 #[.string s] (fun e => ∃ r f, e = .returned (.tuple #[.float .f64 r, .int .i64 f]) ∧ ParseP s.data.toList r f) := fun W hb => (refParse_any s W hs).mono fun e w' ⟨r, f, h1, h2, h3⟩ => ⟨⟨r, f, h1, h2⟩, hb.trans (h3.mono hb.size)⟩
theorem atq_do {w : World} (op : Int) (a b : Nat) : AtQ w 24 #[.int .u8 op, .float .f64 a, .float .f64 b] (fun e => ∃ r, e = .returned (.tuple #[.float .f64 r, .bool (opD op).isSome]) ∧ r < 18446744073709551616 ∧ isRes (opD op) a b r) := fun W hb => (Do_any op a b W).mono fun e w' ⟨r, h1, h2, h3, h4⟩ => ⟨⟨r, h1, h2, h3⟩, hb.trans (h4.mono hb.size)⟩
theorem atq_refDo {w : World} (op : Int) (a b : Nat) : AtQ w 25 #[.int .u8 op, .float .f64 a, .float .f64 b] (fun e => ∃ r, e = .returned (.tuple #[.float .f64 r, .bool (opD op).isSome]) ∧ r < 18446744073709551616 ∧ isRes (opD op) a b r) := fun W hb => (refDo_any op a b W).mono fun e w' ⟨r, h1, h2, h3, h4⟩ => ⟨⟨r, h1, h2, h3⟩, hb.trans (h4.mono hb.size)⟩
set_option maxHeartbeats 1000000 in
set_option maxRecDepth 100000 in
theorem law_Print (x : Nat) (hx : x < 18446744073709551616) (w : World) (hT : NTabs w) : Calls Tryz.prog 5 #[.float .f64 x] w (LawE w) := by
  have HW := Aside0.mk (at_works hT)
  have HP := Aside0.mk (at_printW hT hx)
  have HR := Aside0.mk (at_refPrint (w := w) hx)
  have HQ := Aside0.mk (atq_parse hT ⟨(textW x).toArray⟩ (by rw [mk_size]; have := textW_len x hx; omega))
  have HB := Aside0.mk (Below.refl w.heap.size w)
  simp only [At, AtQ] at HW HP HR HQ
  clear hT
  go_enter Tryz.func5, Tryz.ntmps5
  go_wp2_with (first | (go_at_call 13; (with_reducible refine (HP.out _ HB.out).mono ?_); rintro e w1 ⟨rfl, hb⟩; have HB := Aside0.mk hb; clear hb) | (go_at_call 15; (with_reducible refine (HR.out _ HB.out).mono ?_); rintro e w1 ⟨rfl, hb⟩; have HB := Aside0.mk hb; clear hb) | (go_at_call 14; (with_reducible refine (HQ.out _ HB.out).mono ?_); rintro e w1 ⟨⟨r, f, rfl, hp⟩, hb⟩; obtain ⟨hf, hr, hc⟩ := parse_of hx hp rfl; subst hf; have HS := Aside0.mk (at_refSame (w := w) hx hr (decide_eq_true hc)); simp only [At] at HS; have HB := Aside0.mk hb; clear hb hp hc) | (go_at_call 16; (with_reducible refine (HS.out _ HB.out).mono ?_); rintro e w1 ⟨rfl, hb⟩; have HB := Aside0.mk hb; clear hb) | (go_at_call 12; (with_reducible refine (HW.out _ HB.out).mono ?_); rintro e w1 ⟨rfl, hb⟩; have HB := Aside0.mk hb; clear hb))
  go_ret
  exact ⟨rfl, HB.out⟩
set_option maxHeartbeats 1000000 in
set_option maxRecDepth 100000 in
theorem law_Compare (a b : Nat) (ha : a < 18446744073709551616) (hb : b < 18446744073709551616) (w : World) (hT : NTabs w) : Calls Tryz.prog 7 #[.float .f64 a, .float .f64 b] w (LawE w) := by
  have HW := Aside0.mk (at_works hT)
  have HC := Aside0.mk (at_cmp (w := w) ha hb rfl)
  have HD := Aside0.mk (at_refCmp (w := w) ha hb rfl)
  have HS := Aside0.mk (at_same (w := w) ha hb rfl)
  have HR := Aside0.mk (at_refSame (w := w) ha hb rfl)
  have HB := Aside0.mk (Below.refl w.heap.size w)
  generalize decide (cmpK a b = 0) = d at *
  generalize cmpK a b = c at *
  simp only [At, AtQ] at HW HC HD HS HR
  clear hT
  go_enter Tryz.func7, Tryz.ntmps7
  go_wp2_with (first | (go_at_call 22; (with_reducible refine (HC.out _ HB.out).mono ?_); rintro e w1 ⟨rfl, hb⟩; have HB := Aside0.mk hb; clear hb) | (go_at_call 23; (with_reducible refine (HD.out _ HB.out).mono ?_); rintro e w1 ⟨rfl, hb⟩; have HB := Aside0.mk hb; clear hb) | (go_at_call 20; (with_reducible refine (HS.out _ HB.out).mono ?_); rintro e w1 ⟨rfl, hb⟩; have HB := Aside0.mk hb; clear hb) | (go_at_call 16; (with_reducible refine (HR.out _ HB.out).mono ?_); rintro e w1 ⟨rfl, hb⟩; have HB := Aside0.mk hb; clear hb) | (go_at_call 12; (with_reducible refine (HW.out _ HB.out).mono ?_); rintro e w1 ⟨rfl, hb⟩; have HB := Aside0.mk hb; clear hb))
  go_ret
  exact ⟨rfl, HB.out⟩
theorem do_two {op : Int} {a b r r' : Nat} (h : isRes (opD op) a b r) (h' : isRes (opD op) a b r') : cmpK r r' = 0 := by
  generalize opD op = o at *
  cases o with
  | none =>
    have e1 : r = 0 := h
    have e2 : r' = 0 := h'
    rw [e1, e2]
    exact cmpK_self 0
  | some o =>
    have k : floatBits o .f64 a b = some r ∨ (floatBits o .f64 a b = none ∧ nanB r = true) := h
    have k' : floatBits o .f64 a b = some r' ∨ (floatBits o .f64 a b = none ∧ nanB r' = true) := h'
    rcases k with h | ⟨h, k⟩ <;> rcases k' with h' | ⟨h', k'⟩
    · rw [h] at h'
      cases h'
      exact cmpK_self _
    · rw [h] at h'; cases h'
    · rw [h] at h'; cases h'
    · exact cmpK_zero.2 (key_same (.inr ⟨k, k'⟩))
set_option maxHeartbeats 1000000 in
set_option maxRecDepth 100000 in
theorem law_Do (op : Int) (a b : Nat) (w : World) (hT : NTabs w) : Calls Tryz.prog 9 #[.int .u8 op, .float .f64 a, .float .f64 b] w (LawE w) := by
  have HW := Aside0.mk (at_works hT)
  have HC := Aside0.mk (atq_do (w := w) op a b)
  have HD := Aside0.mk (atq_refDo (w := w) op a b)
  have HX := Aside0.mk (fun r r' => @do_two op a b r r')
  have HB := Aside0.mk (Below.refl w.heap.size w)
  generalize opD op = o at *
  generalize hos : o.isSome = os at *
  simp only [At, AtQ] at HW HC HD
  clear hT hos
  go_enter Tryz.func9, Tryz.ntmps9
  go_wp2_with (first | (go_at_call 24; (with_reducible refine (HC.out _ HB.out).mono ?_); rintro e w1 ⟨⟨r, rfl, hr, hres⟩, hb⟩; have HRS := Aside0.mk hres; have HB := Aside0.mk hb; clear hb hres) | (go_at_call 25; (with_reducible refine (HD.out _ HB.out).mono ?_); rintro e w1 ⟨⟨r', rfl, hr', hres⟩, hb⟩; have HS := Aside0.mk (at_same (w := w) hr hr' (decide_eq_true (HX.out r r' HRS.out hres))); simp only [At] at HS; have HB := Aside0.mk hb; clear hb hres) | (go_at_call 20; (with_reducible refine (HS.out _ HB.out).mono ?_); rintro e w1 ⟨rfl, hb⟩; have HB := Aside0.mk hb; clear hb) | (go_at_call 12; (with_reducible refine (HW.out _ HB.out).mono ?_); rintro e w1 ⟨rfl, hb⟩; have HB := Aside0.mk hb; clear hb))
  go_ret
  exact ⟨rfl, HB.out⟩
set_option maxHeartbeats 1000000 in
set_option maxRecDepth 100000 in
theorem law_Parse (s : ByteArray) (w : World) (hT : NTabs w) : Calls Tryz.prog 11 #[.string s] w (LawE w) := by
  have HW := Aside0.mk (at_works hT)
  have HB := Aside0.mk (Below.refl w.heap.size w)
  by_cases h100 : 100 < s.size
  · simp only [At, AtQ] at HW
    clear hT
    go_enter Tryz.func11, Tryz.ntmps11
    go_wp2_with (go_at_call 12; (with_reducible refine (HW.out _ HB.out).mono ?_); rintro e w1 ⟨rfl, hb⟩; have HB := Aside0.mk hb; clear hb)
    go_ret
    exact ⟨rfl, HB.out⟩
  · have hq := atq_parse hT s (by omega)
    have hr := atq_refParse (w := w) s (by omega)
    have HPR := Aside0.mk (fun x hx => at_printW hT (x := x) hx)
    by_cases hex : ∃ y, y < 18446744073709551616 ∧ textW y = s.data.toList
    · have key : ∀ r f, ParseP s.data.toList r f → f = 0 ∧ r < 18446744073709551616 ∧ textW r = s.toList := fun r f h => by
        obtain ⟨y, hy, ht⟩ := hex
        rcases h with ⟨h1, h2, h3⟩ | ⟨_, _, h3⟩
        · exact ⟨h1, h2, by rw [Lib.toList_data]; exact h3⟩
        · exact absurd ht (h3 y hy)
      have hq' : AtQ w 14 #[.string s] (fun e => ∃ r, e = .returned (.tuple #[.float .f64 r, .int .i64 0]) ∧ r < 18446744073709551616 ∧ textW r = s.toList) := fun W hb => (hq W hb).mono fun e w' ⟨⟨r, f, h1, h2⟩, h3⟩ => by
        obtain ⟨rfl, k2, k3⟩ := key r f h2
        exact ⟨⟨r, h1, k2, k3⟩, h3⟩
      have hr' : AtQ w 30 #[.string s] (fun e => ∃ r, e = .returned (.tuple #[.float .f64 r, .int .i64 0]) ∧ r < 18446744073709551616 ∧ textW r = s.toList) := fun W hb => (hr W hb).mono fun e w' ⟨⟨r, f, h1, h2⟩, h3⟩ => by
        obtain ⟨rfl, k2, k3⟩ := key r f h2
        exact ⟨⟨r, h1, k2, k3⟩, h3⟩
      have HQ := Aside0.mk hq'
      have HR := Aside0.mk hr'
      simp only [At, AtQ] at HW HQ HR HPR
      clear hT hq hr hq' hr' key hex
      go_enter Tryz.func11, Tryz.ntmps11
      go_wp2_with (first | (go_at_call 14; (with_reducible refine (HQ.out _ HB.out).mono ?_); rintro e w1 ⟨⟨r, rfl, hr, ht⟩, hb⟩; have HPR1 := Aside0.mk (HPR.out r hr); have HT1 := Aside0.mk ht; have HE := Aside0.mk (show (textW r == s.toList) = true by simpa using ht); have HB := Aside0.mk hb; clear hb ht) | (go_at_call 30; (with_reducible refine (HR.out _ HB.out).mono ?_); rintro e w1 ⟨⟨r', rfl, hr', ht⟩, hb⟩; have HS := Aside0.mk (at_refSame (w := w) hr hr' (decide_eq_true ((cmpK_text hr hr').2 (HT1.out.trans ht.symm)))); simp only [At] at HS; have HB := Aside0.mk hb; clear hb ht) | (go_at_call 16; (with_reducible refine (HS.out _ HB.out).mono ?_); rintro e w1 ⟨rfl, hb⟩; have HB := Aside0.mk hb; have he := HE.out; clear hb) | (go_at_call 13; (with_reducible refine (HPR1.out _ HB.out).mono ?_); rintro e w1 ⟨rfl, hb⟩; have HB := Aside0.mk hb; clear hb) | (go_at_call 12; (with_reducible refine (HW.out _ HB.out).mono ?_); rintro e w1 ⟨rfl, hb⟩; have HB := Aside0.mk hb; clear hb))
      go_ret
      exact ⟨rfl, HB.out⟩
    · have key : ∀ r f, ParseP s.data.toList r f → f = 210 ∧ r = 0 := fun r f h => by
        rcases h with ⟨h1, h2, h3⟩ | ⟨h1, h2, _⟩
        · exact absurd ⟨r, h2, h3⟩ hex
        · exact ⟨h1, h2⟩
      have hq' : AtQ w 14 #[.string s] (fun e => e = .returned (.tuple #[.float .f64 0, .int .i64 210])) := fun W hb => (hq W hb).mono fun e w' ⟨⟨r, f, h1, h2⟩, h3⟩ => by
        obtain ⟨rfl, rfl⟩ := key r f h2
        exact ⟨h1, h3⟩
      have hr' : AtQ w 30 #[.string s] (fun e => e = .returned (.tuple #[.float .f64 0, .int .i64 210])) := fun W hb => (hr W hb).mono fun e w' ⟨⟨r, f, h1, h2⟩, h3⟩ => by
        obtain ⟨rfl, rfl⟩ := key r f h2
        exact ⟨h1, h3⟩
      have HQ := Aside0.mk hq'
      have HR := Aside0.mk hr'
      have HS := Aside0.mk (at_refSame (w := w) (x := 0) (y := 0) (by omega) (by omega) (c := true) (by decide))
      simp only [At, AtQ] at HW HQ HR HS
      clear hT hq hr hq' hr' key hex
      go_enter Tryz.func11, Tryz.ntmps11
      go_wp2_with (first | (go_at_call 14; (with_reducible refine (HQ.out _ HB.out).mono ?_); rintro e w1 ⟨rfl, hb⟩; have HB := Aside0.mk hb; clear hb) | (go_at_call 30; (with_reducible refine (HR.out _ HB.out).mono ?_); rintro e w1 ⟨rfl, hb⟩; have HB := Aside0.mk hb; clear hb) | (go_at_call 16; (with_reducible refine (HS.out _ HB.out).mono ?_); rintro e w1 ⟨rfl, hb⟩; have HB := Aside0.mk hb; clear hb) | (go_at_call 12; (with_reducible refine (HW.out _ HB.out).mono ?_); rintro e w1 ⟨rfl, hb⟩; have HB := Aside0.mk hb; clear hb))
      go_ret
      exact ⟨rfl, HB.out⟩
end Go.Proofs.YtghnlhadohnenaaGreatDoor
