/- slices.IndexFunc, slices.ContainsFunc at the rows and bounds of ranges. ranges.right: which ranges may be. ranges.allows: which versions a bound allows. ranges.Allows: which versions a range allows. ranges.Parse: a text read as a range. -/
import Derived.Test.YtnbmdecehlljcaaGreatDoorProg
import Derived.Test.YtnbmdecehlljcaaGreatDoorWMore
import Derived.Test.YtnbmdecehlljcaaGreatDoorPRqs
import Derived.Lib.SliceRun
import Derived.Shelf.Abstract
import Derived.Test.YtnbmdecehlljcaaGreatDoorRngC
import Derived.Test.YtnbmdecehlljcaaGreatDoorPRbx1
import Derived.Test.YtnbmdecehlljcaaGreatDoorPRbx2
import Derived.Outline
import Derived.Laws.EntriesVeiled
import Derived.Test.YtnbmdecehlljcaaGreatDoorRnO
namespace Go.Proofs.YtnbmdecehlljcaaGreatDoor
open Go.RowKit Go.Proofs.YtnbmdecehlljcaaGreatDoorW.PrintWords Go.Proofs.YtnbmdecehlljcaaGreatDoorW.PrintLast Go.Proofs.YtnbmdecehlljcaaGreatDoorW.PrintMore
set_option linter.unusedSimpArgs false
set_option linter.unusedVariables false
/-- The first place below n at which p holds, or -1. -/
def firstP (p : Nat → Bool) (n : Nat) : Int := match (List.range n).find? p with
  | some j => j
  | none => -1
def anyP (p : Nat → Bool) (n : Nat) : Bool := (List.range n).any p
theorem firstP_hit {p : Nat → Bool} {n k : Nat} (hk : k < n) (hp : p k = true) (h : ∀ j, j < k → p j = false) : firstP p n = k := by
  have e : (List.range n).find? p = some k := by
    rw [List.find?_range_eq_some]
    exact ⟨hp, List.mem_range.2 hk, fun j hj => by simp [h j hj]⟩
  simp [firstP, e]
theorem firstP_miss {p : Nat → Bool} {n : Nat} (h : ∀ j, j < n → p j = false) : firstP p n = -1 := by
  have e : (List.range n).find? p = none := by
    rw [List.find?_eq_none]
    intro x hx
    simp [h x (List.mem_range.1 hx)]
  simp [firstP, e]
theorem firstP_any (p : Nat → Bool) (n : Nat) : decide (firstP p n ≥ 0) = anyP p n := by
  unfold firstP anyP
  cases h : (List.range n).find? p with
  | none =>
    have : (List.range n).any p = false := by
      rw [List.any_eq_false]
      exact fun x hx => by simpa using List.find?_eq_none.1 h x hx
    simp [this]
  | some k =>
    have h1 := List.find?_some h
    have h2 := List.mem_of_find?_eq_some h
    have : (List.range n).any p = true := List.any_eq_true.2 ⟨k, h2, h1⟩
    simp [this]
/-- What is asked of the function value: at each place of the row, in whatever later memory. -/
def PredPlaces (P : Program) (g : Nat) (lb : Array Value) (V : Nat → Value) (p : Nat → Bool) (n : Nat) (w : World) : Prop :=
  ∀ j, j < n → ∀ W, Below w.heap.size w W → Calls P g (#[V j] ++ lb) W fun e w' => e = .returned (.bool (p j)) ∧ Below W.heap.size W w'
def RowPlaces (w : World) (A : Option Addr) (n : Nat) (V : Nat → Value) : Prop := 0 < n → ∃ ad, A = some ad ∧ ∀ j, j < n → w.cell? (ad.add j) = some (V j)

def BoundPlaces (w : World) (A : Option Addr) (n : Nat) (V : Nat → PRq.S59) : Prop := 0 < n → ∃ ad, A = some ad ∧ ∀ j, j < n → w.cell? (ad.add (j * 2)) = some (.int .u8 (V j).f0) ∧ w.cell? ⟨(ad.add (j * 2)).block, (ad.add (j * 2)).off + 1, none⟩ = some (.string (V j).f1)
set_option maxHeartbeats 2000000 in
theorem IndexFunc_rows (g : Nat) (lb : Array Value) (eg : ∀ args w, (callFunc g args).run Tryz.prog w = .ok (.enter g args) w) (A : Option Addr) (n c : Nat) (V : Nat → Value) (p : Nat → Bool) (w : World) (hn : n ≤ 9223372036854775807)
    (hr : RowPlaces w A n V) (hp : PredPlaces Tryz.prog g lb V p n w) :
    Calls Tryz.prog 88 #[.slice A n c, .func (.func g) #[] lb] w fun e w' => e = .returned (.int .i64 (firstP p n)) ∧ Below w.heap.size w w' := by
  have HR := Aside0.mk hr
  have HP := Aside0.mk hp
  clear hr hp
  go_enter Tryz.func88, Tryz.ntmps88
  go_wp2
  go_loopg [5, 8] n (fun gg _ s8 wr => ∃ kk : Nat, kk ≤ n ∧ n - kk ≤ gg ∧ s8 = .int .i64 kk ∧ Aside0 (Below w.heap.size w wr) ∧ Aside0 (∀ j, j < kk → p j = false))
  case atStart => exact ⟨0, Nat.zero_le _, by omega, rfl, ⟨Below.refl _ _⟩, ⟨fun j hj => absurd hj (Nat.not_lt_zero _)⟩⟩
  case round =>
    obtain ⟨kk, hkk, hg, rfl, HB, HN⟩ := hrel
    by_cases hlt : kk < n
    · have hltz : (kk : Int) < (n : Int) := by omega
      obtain ⟨ad, rfl, hc⟩ := HR.out (by omega)
      have hcell : wr.cell? (ad.add kk) = some (V kk) := pw_cell_below HB.out (hc kk hlt)
      clear hc
      have hcall := HP.out kk hlt wr HB.out
      have hcall' := Aside0.mk hcall
      clear hcall
      cases hq : p kk with
      | true =>
        have HQ := Aside0.mk hq
        clear hq
        go_wp2_with (go_at_fn g; refine (hcall'.out).mono ?_; rintro e w' ⟨rfl, hb⟩; rw [HQ.out]; have HB2 := Aside0.mk hb; clear hb)
        go_ret
        refine ⟨?_, HB.out.trans (HB2.out.mono HB.out.size)⟩
        rw [firstP_hit hlt HQ.out HN.out]
        rfl
      | false =>
        have HQ := Aside0.mk hq
        clear hq
        go_wp2_with (go_at_fn g; refine (hcall'.out).mono ?_; rintro e w' ⟨rfl, hb⟩; rw [HQ.out]; have HB2 := Aside0.mk hb; clear hb)
        go_roundg (n - (kk + 1))
        case measure => omega
        case rel =>
          refine ⟨kk + 1, by omega, by omega, by go_num, ⟨HB.out.trans (HB2.out.mono HB.out.size)⟩, ⟨fun j hj => ?_⟩⟩
          by_cases e : j = kk
          · subst e
            exact HQ.out
          · exact HN.out j (by omega)
    · have hltz : ¬ (kk : Int) < (n : Int) := by omega
      have : kk = n := by omega
      subst this
      go_wp2
      go_ret
      refine ⟨?_, HB.out⟩
      rw [firstP_miss HN.out]
      rfl

set_option maxHeartbeats 1000000 in
theorem ContainsFunc_rows (g : Nat) (lb : Array Value) (eg : ∀ args w, (callFunc g args).run Tryz.prog w = .ok (.enter g args) w) (A : Option Addr) (n c : Nat) (V : Nat → Value) (p : Nat → Bool) (w : World) (hn : n ≤ 9223372036854775807)
    (hr : RowPlaces w A n V) (hp : PredPlaces Tryz.prog g lb V p n w) :
    Calls Tryz.prog 57 #[.slice A n c, .func (.func g) #[] lb] w fun e w' => e = .returned (.bool (anyP p n)) ∧ Below w.heap.size w w' := by
  have H := Aside0.mk (IndexFunc_rows g lb eg A n c V p w hn hr hp)
  clear hr hp
  go_enter Tryz.func57, Tryz.ntmps57
  go_wp2_with (go_at_call 88; refine (H.out).mono ?_; rintro e w' ⟨rfl, hb⟩; have HB := Aside0.mk hb; clear hb)
  go_ret
  exact ⟨by rw [← firstP_any]; rfl, HB.out⟩


set_option maxHeartbeats 2000000 in
theorem IndexFunc_bounds (g : Nat) (lb : Array Value) (eg : ∀ args w, (callFunc g args).run Tryz.prog w = .ok (.enter g args) w) (A : Option Addr) (n c : Nat) (V : Nat → PRq.S59) (p : Nat → Bool) (w : World) (hn : n ≤ 9223372036854775807)
    (hr : BoundPlaces w A n V) (hp : PredPlaces Tryz.prog g lb (fun j => .agg #[.int .u8 (V j).f0, .string (V j).f1]) p n w) :
    Calls Tryz.prog 89 #[.slice A n c, .func (.func g) #[] lb] w fun e w' => e = .returned (.int .i64 (firstP p n)) ∧ Below w.heap.size w w' := by
  have HR := Aside0.mk hr
  have HP := Aside0.mk hp
  clear hr hp
  go_enter Tryz.func89, Tryz.ntmps89
  go_wp2
  go_loopg [5, 8] n (fun gg _ s8 wr => ∃ kk : Nat, kk ≤ n ∧ n - kk ≤ gg ∧ s8 = .int .i64 kk ∧ Aside0 (Below w.heap.size w wr) ∧ Aside0 (∀ j, j < kk → p j = false))
  case atStart => exact ⟨0, Nat.zero_le _, by omega, rfl, ⟨Below.refl _ _⟩, ⟨fun j hj => absurd hj (Nat.not_lt_zero _)⟩⟩
  case round =>
    obtain ⟨kk, hkk, hg, rfl, HB, HN⟩ := hrel
    by_cases hlt : kk < n
    · have hltz : (kk : Int) < (n : Int) := by omega
      obtain ⟨ad, rfl, hc⟩ := HR.out (by omega)
      have hcell : wr.cell? (ad.add (kk * 2)) = some (.int .u8 (V kk).f0) := pw_cell_below HB.out (hc kk hlt).1
      have hcell2 : wr.cell? ⟨(ad.add (kk * 2)).block, (ad.add (kk * 2)).off + 1, none⟩ = some (.string (V kk).f1) := pw_cell_below HB.out (hc kk hlt).2
      clear hc
      have hcall := HP.out kk hlt wr HB.out
      have hcall' := Aside0.mk hcall
      clear hcall
      cases hq : p kk with
      | true =>
        have HQ := Aside0.mk hq
        clear hq
        go_wp2_with (go_at_fn g; refine (hcall'.out).mono ?_; rintro e w' ⟨rfl, hb⟩; rw [HQ.out]; have HB2 := Aside0.mk hb; clear hb)
        go_ret
        refine ⟨?_, HB.out.trans (HB2.out.mono HB.out.size)⟩
        rw [firstP_hit hlt HQ.out HN.out]
        rfl
      | false =>
        have HQ := Aside0.mk hq
        clear hq
        go_wp2_with (go_at_fn g; refine (hcall'.out).mono ?_; rintro e w' ⟨rfl, hb⟩; rw [HQ.out]; have HB2 := Aside0.mk hb; clear hb)
        go_roundg (n - (kk + 1))
        case measure => omega
        case rel =>
          refine ⟨kk + 1, by omega, by omega, by go_num, ⟨HB.out.trans (HB2.out.mono HB.out.size)⟩, ⟨fun j hj => ?_⟩⟩
          by_cases e : j = kk
          · subst e
            exact HQ.out
          · exact HN.out j (by omega)
    · have hltz : ¬ (kk : Int) < (n : Int) := by omega
      have : kk = n := by omega
      subst this
      go_wp2
      go_ret
      refine ⟨?_, HB.out⟩
      rw [firstP_miss HN.out]
      rfl

set_option maxHeartbeats 1000000 in
theorem ContainsFunc_bounds (g : Nat) (lb : Array Value) (eg : ∀ args w, (callFunc g args).run Tryz.prog w = .ok (.enter g args) w) (A : Option Addr) (n c : Nat) (V : Nat → PRq.S59) (p : Nat → Bool) (w : World) (hn : n ≤ 9223372036854775807)
    (hr : BoundPlaces w A n V) (hp : PredPlaces Tryz.prog g lb (fun j => .agg #[.int .u8 (V j).f0, .string (V j).f1]) p n w) :
    Calls Tryz.prog 59 #[.slice A n c, .func (.func g) #[] lb] w fun e w' => e = .returned (.bool (anyP p n)) ∧ Below w.heap.size w w' := by
  have H := Aside0.mk (IndexFunc_bounds g lb eg A n c V p w hn hr hp)
  clear hr hp
  go_enter Tryz.func59, Tryz.ntmps59
  go_wp2_with (go_at_call 89; refine (H.out).mono ?_; rintro e w' ⟨rfl, hb⟩; have HB := Aside0.mk hb; clear hb)
  go_ret
  exact ⟨by rw [← firstP_any]; rfl, HB.out⟩


end Go.Proofs.YtnbmdecehlljcaaGreatDoor
namespace Go.Proofs.YtnbmdecehlljcaaGreatDoor
open Go.RowKit Go.Proofs.YtnbmdecehlljcaaGreatDoorW.PrintWords Go.Proofs.YtnbmdecehlljcaaGreatDoorW.PrintLast Go.Proofs.YtnbmdecehlljcaaGreatDoorW.PrintMore
set_option linter.unusedVariables false
set_option linter.unusedSimpArgs false
def mayO (b : PRq.S59) : Option Bool := PRb.ranges_may.f b.f0 b.f1
def mayOK (b : PRq.S59) : Bool := (mayO b).isSome
def badB (b : PRq.S59) : Bool := !((mayO b).getD false)
def badRow (row : List PRq.S59) : Bool := decide (row.length < 1) || decide (16 < row.length) || row.any badB
def rightB (l : List (List PRq.S59)) : Bool := decide (l.length ≤ 16) && !(l.any badRow)
def ranges_right.f (l : List (List PRq.S59)) : Option Bool := if (l.all fun row => row.all mayOK) = true then some (rightB l) else none
theorem anyP_list {α : Type} (l : List α) (z : α) (f : α → Bool) : anyP (fun j => f (l.getD j z)) l.length = l.any f := by
  unfold anyP
  rw [Bool.eq_iff_iff, List.any_eq_true, List.any_eq_true]
  constructor
  · rintro ⟨j, hj, hf⟩
    have hj' := List.mem_range.1 hj
    rw [List.getD_eq_getElem?_getD, List.getElem?_eq_getElem hj'] at hf
    exact ⟨l[j], List.getElem_mem hj', hf⟩
  · rintro ⟨x, hx, hf⟩
    obtain ⟨j, hj, rfl⟩ := List.getElem_of_mem hx
    exact ⟨j, List.mem_range.2 hj, by rw [List.getD_eq_getElem?_getD, List.getElem?_eq_getElem hj]; exact hf⟩
theorem bounds_of {w : World} {A : Option Addr} {l : List PRq.S59} (h : Kd.C PRq.k59 w A l.length l) : BoundPlaces w A l.length (fun j => l.getD j PRq.z59) := by
  intro hn
  obtain ⟨ad, e, _, _⟩ := PRq.at_T59 h 0 (by omega) (by omega)
  refine ⟨ad, e, fun j hj => ?_⟩
  obtain ⟨ad', e', h1, h2⟩ := PRq.at_T59 h (j : Int) (by omega) (by omega)
  rw [e] at e'
  cases e'
  exact ⟨h1, h2⟩
/-- The values of a row of rows. -/
def rowV (w : World) (A : Option Addr) (j : Nat) : Value := match A with
  | some ad => (w.cell? (ad.add j)).getD undef
  | none => undef
theorem rows_of {w : World} {A : Option Addr} {l : List (List PRq.S59)} (h : Kd.C (Kd.slice 59 PRq.k59) w A l.length l) : RowPlaces w A l.length (rowV w A) := by
  intro hn
  obtain ⟨ad, A0, c0, e, _⟩ := PRq.at_L4 h 0 (by omega) (by omega)
  refine ⟨ad, e, fun j hj => ?_⟩
  obtain ⟨ad', A1, c1, e', h1, _⟩ := PRq.at_L4 h (j : Int) (by omega) (by omega)
  rw [e] at e'
  cases e'
  subst e
  simp only [rowV]
  have h1' : w.cell? (ad.add j) = some (.slice A1 (PRq.rd_L4 l (j : Int)).length c1) := h1
  rw [h1']
  rfl
theorem rowV_at {w : World} {A : Option Addr} {l : List (List PRq.S59)} (h : Kd.C (Kd.slice 59 PRq.k59) w A l.length l) (j : Nat) (hj : j < l.length) :
    ∃ A1 c1, rowV w A j = .slice A1 (l.getD j []).length c1 ∧ (l.getD j []).length ≤ c1 ∧ Kd.C PRq.k59 w A1 (l.getD j []).length (l.getD j []) := by
  obtain ⟨ad', A1, c1, e', h1, h2, h3⟩ := PRq.at_L4 h (j : Int) (by omega) (by omega)
  subst e'
  refine ⟨A1, c1, ?_, h2, h3⟩
  have h1' : w.cell? (ad'.add j) = some (.slice A1 (PRq.rd_L4 l (j : Int)).length c1) := h1
  simp only [rowV]
  rw [h1']
  rfl
set_option maxHeartbeats 2000000 in
theorem right11_calls (b : PRq.S59) (W : World) (hT : RTabs W) (r : Bool) (h : mayO b = some r) :
    Calls Tryz.prog 84 #[.agg #[.int .u8 b.f0, .string b.f1]] W fun e w' => e = .returned (.bool (!r)) ∧ Below W.heap.size W w' := by
  have hb0 : Below W.heap.size W (W.alloc (.cells #[.int .u8 b.f0, .string b.f1] 59)) := (Below.refl _ _).alloc (Nat.le_refl _) _
  have HB0 := Aside0.mk hb0
  have H := Aside0.mk (PRb.ranges_may.calls b.f0 b.f1 r (W.alloc (.cells #[.int .u8 b.f0, .string b.f1] 59)) (hT.below hb0) h)
  clear hb0 hT h
  have c1 : (W.alloc (.cells #[.int .u8 b.f0, .string b.f1] 59)).cell? ⟨W.heap.size, 0, none⟩ = some (.int .u8 b.f0) := by rw [cell_of_heapK (heap_alloc_new W _)]; rfl
  have c2 : (W.alloc (.cells #[.int .u8 b.f0, .string b.f1] 59)).cell? ⟨W.heap.size, 1, none⟩ = some (.string b.f1) := by rw [cell_of_heapK (heap_alloc_new W _)]; rfl
  go_enter Tryz.func84, Tryz.ntmps84
  go_wp2_with (go_at_call 85; refine (H.out).mono ?_; rintro e w' ⟨rfl, hb⟩; have HB := Aside0.mk hb; clear hb)
  go_ret
  exact ⟨rfl, HB0.out.trans (HB.out.mono (by simp))⟩
set_option maxHeartbeats 2000000 in
theorem right1_calls (row : List PRq.S59) (A : Option Addr) (c : Nat) (W : World) (hT : RTabs W) (hC : Kd.C PRq.k59 W A row.length row) (hok : row.all mayOK = true) :
    Calls Tryz.prog 83 #[.slice A row.length c] W fun e w' => e = .returned (.bool (badRow row)) ∧ Below W.heap.size W w' := by
  have hn := hC.2.1
  have hp : PredPlaces Tryz.prog 84 #[] (fun j => .agg #[.int .u8 (row.getD j PRq.z59).f0, .string (row.getD j PRq.z59).f1]) (fun j => badB (row.getD j PRq.z59)) row.length W := by
    intro j hj W' hb
    have hmem : row.getD j PRq.z59 ∈ row := by
      rw [List.getD_eq_getElem?_getD, List.getElem?_eq_getElem hj]
      exact List.getElem_mem hj
    have h1 := List.all_eq_true.1 hok _ hmem
    unfold mayOK at h1
    obtain ⟨r, hr⟩ := Option.isSome_iff_exists.1 h1
    refine (right11_calls (row.getD j PRq.z59) W' (hT.below hb) r hr).mono ?_
    rintro e w' ⟨rfl, hb'⟩
    refine ⟨?_, hb'⟩
    show Ending.returned (Value.bool !r) = Ending.returned (Value.bool (badB (row.getD j PRq.z59)))
    unfold badB
    rw [hr]
    rfl
  have H := Aside0.mk (ContainsFunc_bounds 84 #[] (enters_of Tryz.func84 (by kernel_rfl) rfl) A row.length c (fun j => row.getD j PRq.z59) (fun j => badB (row.getD j PRq.z59)) W hn (bounds_of hC) hp)
  have E := Aside0.mk (anyP_list row PRq.z59 badB)
  clear hp hC hT hok
  unfold badRow
  by_cases h1 : row.length < 1
  · have b1 : decide ((row.length : Int) < 1) = true := decide_eq_true (by omega)
    have e1 : decide (row.length < 1) = true := decide_eq_true (by omega)
    have E1 := Aside0.mk e1
    clear e1 h1
    go_enter Tryz.func83, Tryz.ntmps83
    go_wp2
    go_ret
    exact ⟨by rw [E1.out]; rfl, Below.refl _ _⟩
  · by_cases h2 : 16 < row.length
    · have b1 : decide ((row.length : Int) < 1) = false := decide_eq_false (by omega)
      have b2 : decide ((row.length : Int) > 16) = true := decide_eq_true (by omega)
      have e1 : (decide (row.length < 1) || decide (16 < row.length) || row.any badB) = true := by rw [decide_eq_true h2]; simp
      have E1 := Aside0.mk e1
      clear e1 h1 h2
      go_enter Tryz.func83, Tryz.ntmps83
      go_wp2
      go_ret
      exact ⟨by rw [E1.out]; rfl, Below.refl _ _⟩
    · have b1 : decide ((row.length : Int) < 1) = false := decide_eq_false (by omega)
      have b2 : decide ((row.length : Int) > 16) = false := decide_eq_false (by omega)
      have e1 : (decide (row.length < 1) || decide (16 < row.length) || row.any badB) = row.any badB := by
        rw [decide_eq_false h1, decide_eq_false h2]
        rfl
      have E1 := Aside0.mk e1
      clear e1 h1 h2
      go_enter Tryz.func83, Tryz.ntmps83
      go_wp2_with (go_at_call 59; refine (H.out).mono ?_; rintro e w' ⟨rfl, hb⟩; have HB := Aside0.mk hb; clear hb)
      go_ret
      exact ⟨by rw [E1.out, ← E.out]; rfl, HB.out⟩
set_option maxHeartbeats 2000000 in
theorem ranges_right.calls (A0 : Option Addr) (c0 : Nat) (l0 : List (List PRq.S59)) (r : Bool) (w : World) (hr0 : Kd.C (Kd.slice 59 PRq.k59) w A0 l0.length l0) (hc0 : l0.length ≤ c0) (hT : RTabs w) (h : ranges_right.f l0 = some r) :
    Calls Tryz.prog 54 #[.slice A0 l0.length c0] w fun e w' => e = .returned (.bool r) ∧ Below w.heap.size w w' := by
  unfold ranges_right.f at h
  by_cases hok : (l0.all fun row => row.all mayOK) = true
  · rw [if_pos hok] at h
    obtain rfl := Option.some.inj h
    clear h
    have hn := hr0.2.1
    have hp : PredPlaces Tryz.prog 83 #[] (rowV w A0) (fun j => badRow (l0.getD j [])) l0.length w := by
      intro j hj W' hb
      obtain ⟨A1, c1, e1, h1, h2⟩ := rowV_at hr0 j hj
      have hmem : l0.getD j [] ∈ l0 := by
        rw [List.getD_eq_getElem?_getD, List.getElem?_eq_getElem hj]
        exact List.getElem_mem hj
      rw [e1]
      exact right1_calls (l0.getD j []) A1 c1 W' (hT.below hb) (Kd.C_below h2 hb) (List.all_eq_true.1 hok _ hmem)
    have H := Aside0.mk (ContainsFunc_rows 83 #[] (enters_of Tryz.func83 (by kernel_rfl) rfl) A0 l0.length c0 (rowV w A0) (fun j => badRow (l0.getD j [])) w hn (rows_of hr0) hp)
    have E := Aside0.mk (anyP_list l0 [] badRow)
    clear hp hr0 hT hok hc0
    unfold rightB
    by_cases h1 : l0.length ≤ 16
    · have b1 : decide ((l0.length : Int) ≤ 16) = true := decide_eq_true (by omega)
      have E1 := Aside0.mk (decide_eq_true h1)
      clear h1
      go_enter Tryz.func54, Tryz.ntmps54
      go_wp2_with (go_at_call 57; refine (H.out).mono ?_; rintro e w' ⟨rfl, hb⟩; have HB := Aside0.mk hb; clear hb)
      go_ret
      exact ⟨by rw [E1.out, ← E.out]; rfl, HB.out⟩
    · have b1 : decide ((l0.length : Int) ≤ 16) = false := decide_eq_false (by omega)
      have E1 := Aside0.mk (decide_eq_false h1)
      clear h1
      go_enter Tryz.func54, Tryz.ntmps54
      go_wp2
      go_ret
      exact ⟨by rw [E1.out]; rfl, Below.refl _ _⟩
  · rw [if_neg hok] at h
    cases h
end Go.Proofs.YtnbmdecehlljcaaGreatDoor
namespace Go.Proofs.YtnbmdecehlljcaaGreatDoor
open Go.RowKit Go.Proofs.YtnbmdecehlljcaaGreatDoorW.PrintWords Go.Proofs.YtnbmdecehlljcaaGreatDoorW.PrintLast Go.Proofs.YtnbmdecehlljcaaGreatDoorW.PrintMore
set_option linter.unusedVariables false
set_option linter.unusedSimpArgs false
/-- What the comparison's outcome says at each sign. -/
def opB (op c : Int) : Bool := if op = 1 then decide (c = 0) else if op = 2 then !decide (c = 0) else if op = 3 then decide (c < 0) else if op = 4 then decide (c ≤ 0) else if op = 5 then decide (c > 0) else decide (c ≥ 0)
def ranges_allows.f (b : PRq.S59) (l : List Int) (t : ByteArray) : Option Bool :=
  if b.f0 = 0 then some true else (version_Parse.f b.f1).bind fun w => (version_Compare.f l t w.1 w.2.1).bind fun c =>
    if 1 ≤ b.f0 ∧ b.f0 ≤ 6 then some (opB b.f0 c) else if b.f0 = 7 then PRb.ranges_near.f (l.length + 2) l t w.1 w.2.1 else none
theorem c1_calls (p : Addr) (c : Int) (W : World) (hc : W.cell? p = some (.int .i64 c)) : Calls Tryz.prog 90 #[.pointer (some p)] W fun e w' => e = .returned (.bool (opB 1 c)) ∧ Below W.heap.size W w' := by
  have hq : (c == 0) = decide (c = 0) := by by_cases h : c = 0 <;> simp [h]
  have HQ := Aside0.mk hq
  clear hq
  go_enter Tryz.func90, Tryz.ntmps90
  go_wp2
  go_ret
  exact ⟨by simp [opB, HQ.out], Below.refl _ _⟩
theorem c2_calls (p : Addr) (c : Int) (W : World) (hc : W.cell? p = some (.int .i64 c)) : Calls Tryz.prog 91 #[.pointer (some p)] W fun e w' => e = .returned (.bool (opB 2 c)) ∧ Below W.heap.size W w' := by
  have hq : (c != 0) = !decide (c = 0) := by by_cases h : c = 0 <;> simp [h]
  have HQ := Aside0.mk hq
  clear hq
  go_enter Tryz.func91, Tryz.ntmps91
  go_wp2
  go_ret
  exact ⟨by simp [opB, HQ.out], Below.refl _ _⟩
theorem c3_calls (p : Addr) (c : Int) (W : World) (hc : W.cell? p = some (.int .i64 c)) : Calls Tryz.prog 92 #[.pointer (some p)] W fun e w' => e = .returned (.bool (opB 3 c)) ∧ Below W.heap.size W w' := by
  go_enter Tryz.func92, Tryz.ntmps92
  go_wp2
  go_ret
  exact ⟨by simp [opB], Below.refl _ _⟩
theorem c4_calls (p : Addr) (c : Int) (W : World) (hc : W.cell? p = some (.int .i64 c)) : Calls Tryz.prog 93 #[.pointer (some p)] W fun e w' => e = .returned (.bool (opB 4 c)) ∧ Below W.heap.size W w' := by
  go_enter Tryz.func93, Tryz.ntmps93
  go_wp2
  go_ret
  exact ⟨by simp [opB], Below.refl _ _⟩
theorem c5_calls (p : Addr) (c : Int) (W : World) (hc : W.cell? p = some (.int .i64 c)) : Calls Tryz.prog 94 #[.pointer (some p)] W fun e w' => e = .returned (.bool (opB 5 c)) ∧ Below W.heap.size W w' := by
  go_enter Tryz.func94, Tryz.ntmps94
  go_wp2
  go_ret
  exact ⟨by simp [opB], Below.refl _ _⟩
theorem c6_calls (p : Addr) (c : Int) (W : World) (hc : W.cell? p = some (.int .i64 c)) : Calls Tryz.prog 95 #[.pointer (some p)] W fun e w' => e = .returned (.bool (opB 6 c)) ∧ Below W.heap.size W w' := by
  go_enter Tryz.func95, Tryz.ntmps95
  go_wp2
  go_ret
  exact ⟨by simp [opB], Below.refl _ _⟩
theorem c7_calls (g q : Nat) (x y z u : Value) (W : World) (g0 : W.cell? ⟨g, 0, none⟩ = some x) (g1 : W.cell? ⟨g, 1, none⟩ = some y) (P : Ending → World → Prop)
    (g2 : W.cell? ⟨q, 0, none⟩ = some z) (g3 : W.cell? ⟨q, 1, none⟩ = some u)
    (H : Calls Tryz.prog 97 #[.agg #[x, y], .agg #[z, u]] W fun e w' => ∃ r, e = .returned (.bool r) ∧ P e w') : Calls Tryz.prog 96 #[.pointer (some ⟨g, 0, none⟩), .pointer (some ⟨q, 0, none⟩)] W P := by
  have HH := Aside0.mk H
  clear H
  have hu24 := Tryz.underlying24
  go_enter Tryz.func96, Tryz.ntmps96
  go_wp2_with (go_at_call 97; refine (HH.out).mono ?_; rintro e w' ⟨r, rfl, hP⟩; have HQ := Aside0.mk hP; clear hP)
  exact HQ.out
theorem box_in (W : World) (v : Value) (t : TypeId) (o : Obj) : ((W.alloc (.cells #[v] t)).alloc o).cell? ⟨W.heap.size, 0, none⟩ = some v := by
  rw [cell_of_heapK ((Below.heap_alloc _ _ _ (by simp)).trans (heap_alloc_new W (.cells #[v] t)))]
  rfl
theorem cell_up2 {W : World} {b : Nat} {cs : Array Value} {t : TypeId} {o1 o2 : Obj} (h : W.heap[b]? = some (.cells cs t (0, 0))) (i : Nat) : ((W.alloc o1).alloc o2).cell? ⟨b, i, none⟩ = cs[i]? := by
  have hl := lt_of_block h
  exact cell_of_heapK ((Below.heap_alloc _ _ _ (by simp; omega)).trans ((Below.heap_alloc _ _ _ hl).trans h)) i
theorem two_boxes (w : World) (c1 c2 : Array Value) (t1 t2 : TypeId) : ((w.alloc (.cells c1 t1)).alloc (.cells c2 t2)).heap[w.heap.size]? = some (.cells c1 t1 (0, 0)) ∧ ((w.alloc (.cells c1 t1)).alloc (.cells c2 t2)).heap[w.heap.size + 1]? = some (.cells c2 t2 (0, 0)) := by
  have e1 := heap_alloc_new w (.cells c1 t1)
  have e2 := heap_alloc_new (w.alloc (.cells c1 t1)) (.cells c2 t2)
  rw [World.size_alloc] at e2
  exact ⟨(Below.heap_alloc _ _ _ (by simp)).trans e1, e2⟩
set_option maxRecDepth 100000 in
set_option maxHeartbeats 2000000 in
theorem allows_op (op : Int) (vs : ByteArray) (l : List Int) (t : ByteArray) (Av : Option Addr) (cv : Nat) (w : World) (hT : RTabs w) (hv : Kd.C (Kd.int .i64) w Av l.length l) (hcv : l.length ≤ cv) (r1 : List Int) (r2 : ByteArray) (r3 c : Int)
    (hp : version_Parse.f vs = some (r1, r2, r3)) (hc : version_Compare.f l t r1 r2 = some c) (hb : (op == 0) = false) (hop : op = 1 ∨ op = 2 ∨ op = 3 ∨ op = 4 ∨ op = 5 ∨ op = 6) :
    Calls Tryz.prog 61 #[.agg #[.int .u8 op, .string vs], .agg #[.slice Av l.length cv, .string t]] w fun e w' => e = .returned (.bool (opB op c)) ∧ Below w.heap.size w w' := by
  have hu24 := Tryz.underlying24
  have hu59 := Tryz.underlying59
  have HP : Aside0 (∀ W, RTabs W → _) := ⟨fun W hT => version_Parse.calls vs r1 r2 r3 W hT.v hp⟩
  clear hp
  have HT := Aside0.mk hT
  have HV := Aside0.mk hv
  have HCV := Aside0.mk hcv
  have HC := Aside0.mk hc
  clear hT hv hcv hc
  go_enter Tryz.func61, Tryz.ntmps61
  go_wp2_with fail
  obtain ⟨B1, B2⟩ := two_boxes w #[.int .u8 op, .string vs] #[.slice Av l.length cv, .string t] 59 24
  have hb0 : Below w.heap.size w ((w.alloc (.cells #[.int .u8 op, .string vs] 59)).alloc (.cells #[.slice Av l.length cv, .string t] 24)) := ((Below.refl _ _).alloc (Nat.le_refl _) _).alloc (by simp) _
  have hz : ((w.alloc (.cells #[.int .u8 op, .string vs] 59)).alloc (.cells #[.slice Av l.length cv, .string t] 24)).heap.size = w.heap.size + 2 := by simp
  refine (HP.out _ (HT.out.below hb0)).mono ?_
  rintro e W1 ⟨v0, rfl, hR, hb⟩
  rw [hz] at hb
  have hz2 : w.heap.size + 1 < W1.heap.size := by have := hb.size; rw [hz] at this; omega
  have hz1 : w.heap.size < W1.heap.size := by omega
  obtain ⟨A1, c1, rfl, hc1, hC1⟩ := Kd.R_reads hR
  have B1' := (hb.block _ (by omega)).trans B1
  have B2' := (hb.block _ (by omega)).trans B2
  have k0 := cell_of_heapK B1' 0
  have k1 := cell_of_heapK B1' 1
  have k2 := cell_of_heapK B2' 0
  have k3 := cell_of_heapK B2' 1
  have HB1 := Aside0.mk (hb0.trans (hb.mono (by omega)))
  have HR1 := Aside0.mk hC1
  have HC1 := Aside0.mk hc1
  have BK1 := Aside0.mk B1'
  have BK2 := Aside0.mk B2'
  clear B1 B2 B1' B2' hb hR hC1 hc1 hb0 hz
  simp only [List.getElem?_toArray, List.getElem?_cons_zero, List.getElem?_cons_succ] at k0 k1 k2 k3
  go_wp2_with fail
  have hbA : Below w.heap.size w (W1.alloc (.cells #[.slice A1 r1.length c1, .string r2] 24)) := HB1.out.alloc (by omega) _
  have B3 := heap_alloc_new W1 (.cells #[.slice A1 r1.length c1, .string r2] 24)
  have D1 := (Below.heap_alloc W1 (.cells #[.slice A1 r1.length c1, .string r2] 24) w.heap.size (by omega)).trans BK1.out
  have D2 := (Below.heap_alloc W1 (.cells #[.slice A1 r1.length c1, .string r2] 24) (w.heap.size + 1) (by omega)).trans BK2.out
  refine (version_Compare.calls _ _ l t _ _ r1 r2 c _ (Kd.C_below HV.out hbA) HCV.out (Kd.C_alloc HR1.out _) HC1.out HC.out).mono ?_
  rintro e W2 ⟨rfl, hb2⟩
  have hz3 : W1.heap.size < W2.heap.size := by have := hb2.size; simp at this; omega
  have E1 := (hb2.block _ (by simp; omega)).trans D1
  have E2 := (hb2.block _ (by simp; omega)).trans D2
  have E3 := (hb2.block _ (by simp)).trans B3
  have HB2 := Aside0.mk (hbA.trans (hb2.mono (by simp; omega)))
  have l0 := cell_of_heapK E1 0
  have l1 := cell_of_heapK E1 1
  have hz4 : w.heap.size < W2.heap.size := by omega
  clear hbA B3 D1 D2 hb2 k0 k1 k2 k3 E1 E2 E3
  simp only [List.getElem?_toArray, List.getElem?_cons_zero, List.getElem?_cons_succ] at l0 l1
  have hz5 : w.heap.size ≤ W2.heap.size := by omega
  rcases hop with rfl | rfl | rfl | rfl | rfl | rfl
  · go_wp2_with fail
    refine (c1_calls _ c _ (box_in W2 (.int .i64 c) _ _)).mono ?_
    rintro e W3 ⟨rfl, hb3⟩
    have HB3 := Aside0.mk (((HB2.out.alloc hz5 _).alloc (by simp; omega) _).trans (hb3.mono (by simp; omega)))
    clear hb3
    go_wp2
    go_ret
    exact ⟨rfl, HB3.out⟩
  · go_wp2_with fail
    refine (c2_calls _ c _ (box_in W2 (.int .i64 c) _ _)).mono ?_
    rintro e W3 ⟨rfl, hb3⟩
    have HB3 := Aside0.mk (((HB2.out.alloc hz5 _).alloc (by simp; omega) _).trans (hb3.mono (by simp; omega)))
    clear hb3
    go_wp2
    go_ret
    exact ⟨rfl, HB3.out⟩
  · go_wp2_with fail
    refine (c3_calls _ c _ (box_in W2 (.int .i64 c) _ _)).mono ?_
    rintro e W3 ⟨rfl, hb3⟩
    have HB3 := Aside0.mk (((HB2.out.alloc hz5 _).alloc (by simp; omega) _).trans (hb3.mono (by simp; omega)))
    clear hb3
    go_wp2
    go_ret
    exact ⟨rfl, HB3.out⟩
  · go_wp2_with fail
    refine (c4_calls _ c _ (box_in W2 (.int .i64 c) _ _)).mono ?_
    rintro e W3 ⟨rfl, hb3⟩
    have HB3 := Aside0.mk (((HB2.out.alloc hz5 _).alloc (by simp; omega) _).trans (hb3.mono (by simp; omega)))
    clear hb3
    go_wp2
    go_ret
    exact ⟨rfl, HB3.out⟩
  · go_wp2_with fail
    refine (c5_calls _ c _ (box_in W2 (.int .i64 c) _ _)).mono ?_
    rintro e W3 ⟨rfl, hb3⟩
    have HB3 := Aside0.mk (((HB2.out.alloc hz5 _).alloc (by simp; omega) _).trans (hb3.mono (by simp; omega)))
    clear hb3
    go_wp2
    go_ret
    exact ⟨rfl, HB3.out⟩
  · go_wp2_with fail
    refine (c6_calls _ c _ (box_in W2 (.int .i64 c) _ _)).mono ?_
    rintro e W3 ⟨rfl, hb3⟩
    have HB3 := Aside0.mk (((HB2.out.alloc hz5 _).alloc (by simp; omega) _).trans (hb3.mono (by simp; omega)))
    clear hb3
    go_wp2
    go_ret
    exact ⟨rfl, HB3.out⟩
set_option maxRecDepth 100000 in
set_option maxHeartbeats 2000000 in
theorem allows_near (vs : ByteArray) (l : List Int) (t : ByteArray) (Av : Option Addr) (cv : Nat) (w : World) (hT : RTabs w) (hv : Kd.C (Kd.int .i64) w Av l.length l) (hcv : l.length ≤ cv) (r1 : List Int) (r2 : ByteArray) (r3 c : Int)
    (hp : version_Parse.f vs = some (r1, r2, r3)) (hc : version_Compare.f l t r1 r2 = some c) (r : Bool) (hnear : PRb.ranges_near.f (l.length + 2) l t r1 r2 = some r) :
    Calls Tryz.prog 61 #[.agg #[.int .u8 7, .string vs], .agg #[.slice Av l.length cv, .string t]] w fun e w' => e = .returned (.bool r) ∧ Below w.heap.size w w' := by
  have hu24 := Tryz.underlying24
  have hu59 := Tryz.underlying59
  have HP : Aside0 (∀ W, RTabs W → _) := ⟨fun W hT => version_Parse.calls vs r1 r2 r3 W hT.v hp⟩
  clear hp
  have HT := Aside0.mk hT
  have HV := Aside0.mk hv
  have HCV := Aside0.mk hcv
  have HC := Aside0.mk hc
  have HN := Aside0.mk hnear
  clear hT hv hcv hc hnear
  go_enter Tryz.func61, Tryz.ntmps61
  go_wp2_with fail
  obtain ⟨B1, B2⟩ := two_boxes w #[.int .u8 7, .string vs] #[.slice Av l.length cv, .string t] 59 24
  have hb0 : Below w.heap.size w ((w.alloc (.cells #[.int .u8 7, .string vs] 59)).alloc (.cells #[.slice Av l.length cv, .string t] 24)) := ((Below.refl _ _).alloc (Nat.le_refl _) _).alloc (by simp) _
  have hz : ((w.alloc (.cells #[.int .u8 7, .string vs] 59)).alloc (.cells #[.slice Av l.length cv, .string t] 24)).heap.size = w.heap.size + 2 := by simp
  refine (HP.out _ (HT.out.below hb0)).mono ?_
  rintro e W1 ⟨v0, rfl, hR, hb⟩
  rw [hz] at hb
  have hz2 : w.heap.size + 1 < W1.heap.size := by have := hb.size; rw [hz] at this; omega
  have hz1 : w.heap.size < W1.heap.size := by omega
  obtain ⟨A1, c1, rfl, hc1, hC1⟩ := Kd.R_reads hR
  have B1' := (hb.block _ (by omega)).trans B1
  have B2' := (hb.block _ (by omega)).trans B2
  have k0 := cell_of_heapK B1' 0
  have k1 := cell_of_heapK B1' 1
  have k2 := cell_of_heapK B2' 0
  have k3 := cell_of_heapK B2' 1
  have HB1 := Aside0.mk (hb0.trans (hb.mono (by omega)))
  have HR1 := Aside0.mk hC1
  have HC1 := Aside0.mk hc1
  have BK1 := Aside0.mk B1'
  have BK2 := Aside0.mk B2'
  clear B1 B2 B1' B2' hb hR hC1 hc1 hb0 hz
  simp only [List.getElem?_toArray, List.getElem?_cons_zero, List.getElem?_cons_succ] at k0 k1 k2 k3
  go_wp2_with fail
  have hbA : Below w.heap.size w (W1.alloc (.cells #[.slice A1 r1.length c1, .string r2] 24)) := HB1.out.alloc (by omega) _
  have B3 := heap_alloc_new W1 (.cells #[.slice A1 r1.length c1, .string r2] 24)
  have D1 := (Below.heap_alloc W1 (.cells #[.slice A1 r1.length c1, .string r2] 24) w.heap.size (by omega)).trans BK1.out
  have D2 := (Below.heap_alloc W1 (.cells #[.slice A1 r1.length c1, .string r2] 24) (w.heap.size + 1) (by omega)).trans BK2.out
  refine (version_Compare.calls _ _ l t _ _ r1 r2 c _ (Kd.C_below HV.out hbA) HCV.out (Kd.C_alloc HR1.out _) HC1.out HC.out).mono ?_
  rintro e W2 ⟨rfl, hb2⟩
  have hz3 : W1.heap.size < W2.heap.size := by have := hb2.size; simp at this; omega
  have E1 := (hb2.block _ (by simp; omega)).trans D1
  have E2 := (hb2.block _ (by simp; omega)).trans D2
  have E3 := (hb2.block _ (by simp)).trans B3
  have G2 := Aside0.mk E2
  have G3 := Aside0.mk E3
  have HV2 := Aside0.mk (Kd.C_below HV.out (hbA.trans (hb2.mono (by simp; omega))))
  have HR2 := Aside0.mk (Kd.C_below (Kd.C_alloc HR1.out _) hb2)
  have HB2 := Aside0.mk (hbA.trans (hb2.mono (by simp; omega)))
  have l0 := cell_of_heapK E1 0
  have l1 := cell_of_heapK E1 1
  have hz4 : w.heap.size < W2.heap.size := by omega
  clear hbA B3 D1 D2 hb2 k0 k1 k2 k3 E1 E2 E3
  simp only [List.getElem?_toArray, List.getElem?_cons_zero, List.getElem?_cons_succ] at l0 l1
  have hz5 : w.heap.size ≤ W2.heap.size := by omega
  go_wp2_with fail
  refine c7_calls (w.heap.size + 1) W1.heap.size (.slice Av l.length cv) (.string t) (.slice A1 r1.length c1) (.string r2) _ (cell_up2 G2.out 0) (cell_up2 G2.out 1) _ (cell_up2 G3.out 0) (cell_up2 G3.out 1) ((PRb.ranges_near.calls _ _ _ l t _ _ r1 r2 r _ (Kd.C_alloc (Kd.C_alloc HV2.out _) _) HCV.out (Kd.C_alloc (Kd.C_alloc HR2.out _) _) HC1.out HN.out).mono ?_)
  rintro e W3 ⟨rfl, hb3⟩
  refine ⟨r, rfl, ?_⟩
  have HB3 := Aside0.mk (((HB2.out.alloc hz5 _).alloc (by simp; omega) _).trans (hb3.mono (by simp; omega)))
  clear hb3
  go_wp2
  go_ret
  exact ⟨rfl, HB3.out⟩
theorem ranges_allows.calls (b : PRq.S59) (Av : Option Addr) (cv : Nat) (l : List Int) (t : ByteArray) (r : Bool) (w : World) (hv : Kd.C (Kd.int .i64) w Av l.length l) (hcv : l.length ≤ cv) (hT : RTabs w) (h : ranges_allows.f b l t = some r) :
    Calls Tryz.prog 61 #[.agg #[.int .u8 b.f0, .string b.f1], .agg #[.slice Av l.length cv, .string t]] w fun e w' => e = .returned (.bool r) ∧ Below w.heap.size w w' := by
  obtain ⟨op, vs⟩ := b
  unfold ranges_allows.f at h
  by_cases h0 : op = 0
  · subst h0
    obtain rfl : r = true := by
      rw [if_pos rfl] at h
      exact (Option.some.inj h).symm
    clear h hv hcv hT
    go_enter Tryz.func61, Tryz.ntmps61
    go_wp2
    go_ret
    exact ⟨rfl, ((Below.refl _ _).alloc (Nat.le_refl _) _).alloc (by simp) _⟩
  · rw [if_neg h0] at h
    obtain ⟨⟨r1, r2, r3⟩, hp, h⟩ := Option.bind_eq_some_iff.mp h
    obtain ⟨c, hc, h⟩ := Option.bind_eq_some_iff.mp h
    by_cases h1 : 1 ≤ op ∧ op ≤ 6
    · rw [if_pos h1] at h
      obtain rfl := Option.some.inj h
      exact allows_op op vs l t Av cv w hT hv hcv r1 r2 r3 c hp hc (beq_eq_false_iff_ne.2 h0) (by omega)
    · rw [if_neg h1] at h
      by_cases h7 : op = 7
      · subst h7
        rw [if_pos rfl] at h
        exact allows_near vs l t Av cv w hT hv hcv r1 r2 r3 c hp hc r h
      · rw [if_neg h7] at h
        cases h
end Go.Proofs.YtnbmdecehlljcaaGreatDoor
namespace Go.Proofs.YtnbmdecehlljcaaGreatDoor
open Go.RowKit Go.Proofs.YtnbmdecehlljcaaGreatDoorW.PrintWords Go.Proofs.YtnbmdecehlljcaaGreatDoorW.PrintLast Go.Proofs.YtnbmdecehlljcaaGreatDoorW.PrintMore
set_option linter.unusedVariables false
set_option linter.unusedSimpArgs false
def notB (l : List Int) (t : ByteArray) (b : PRq.S59) : Bool := !((ranges_allows.f b l t).getD false)
def okB (l : List Int) (t : ByteArray) (b : PRq.S59) : Bool := (ranges_allows.f b l t).isSome
def okRow (l : List Int) (t : ByteArray) (row : List PRq.S59) : Bool := !(row.any (notB l t))
def ranges_Allows.f (l0 : List (List PRq.S59)) (a1 : ByteArray) : Option Bool := (version_Parse.f a1).bind fun v =>
  if v.2.2 = 0 then (ranges_right.f l0).bind fun ok => if ok = true then (if l0.length = 0 then some true else if (l0.all fun row => row.all (okB v.1 v.2.1)) = true then some (l0.any (okRow v.1 v.2.1)) else none) else some false
  else some false
structure VHold (W : World) (g : Nat) (A : Option Addr) (c : Nat) (l : List Int) (t : ByteArray) : Prop where
  bk : W.heap[g]? = some (.cells #[.slice A l.length c, .string t] 24 (0, 0))
  hv : Kd.C (Kd.int .i64) W A l.length l
  hc : l.length ≤ c
theorem VHold.below {W W' : World} {g : Nat} {A : Option Addr} {c : Nat} {l : List Int} {t : ByteArray} (h : VHold W g A c l t) (hb : Below W.heap.size W W') : VHold W' g A c l t :=
  ⟨(hb.block _ (lt_of_block h.bk)).trans h.bk, Kd.C_below h.hv hb, h.hc⟩
set_option maxHeartbeats 2000000 in
theorem al11_calls (b : PRq.S59) (g : Nat) (A : Option Addr) (c : Nat) (l : List Int) (t : ByteArray) (W : World) (hT : RTabs W) (hB : VHold W g A c l t) (r : Bool) (h : ranges_allows.f b l t = some r) :
    Calls Tryz.prog 60 #[.agg #[.int .u8 b.f0, .string b.f1], .pointer (some ⟨g, 0, none⟩)] W fun e w' => e = .returned (.bool (!r)) ∧ Below W.heap.size W w' := by
  have hb0 : Below W.heap.size W (W.alloc (.cells #[.int .u8 b.f0, .string b.f1] 59)) := (Below.refl _ _).alloc (Nat.le_refl _) _
  have hB1 := hB.below hb0
  have k0 := cell_of_heapK hB1.bk 0
  have k1 := cell_of_heapK hB1.bk 1
  have HB0 := Aside0.mk hb0
  have hu24 := Tryz.underlying24
  have H := Aside0.mk (ranges_allows.calls b A c l t r _ hB1.hv hB1.hc (hT.below hb0) h)
  have c1 : (W.alloc (.cells #[.int .u8 b.f0, .string b.f1] 59)).cell? ⟨W.heap.size, 0, none⟩ = some (.int .u8 b.f0) := by rw [cell_of_heapK (heap_alloc_new W _)]; rfl
  have c2 : (W.alloc (.cells #[.int .u8 b.f0, .string b.f1] 59)).cell? ⟨W.heap.size, 1, none⟩ = some (.string b.f1) := by rw [cell_of_heapK (heap_alloc_new W _)]; rfl
  clear hb0 hT h hB hB1
  simp only [List.getElem?_toArray, List.getElem?_cons_zero, List.getElem?_cons_succ] at k0 k1
  go_enter Tryz.func60, Tryz.ntmps60
  go_wp2_with (go_at_call 61; refine (H.out).mono ?_; rintro e w' ⟨rfl, hb⟩; have HB := Aside0.mk hb; clear hb)
  go_ret
  exact ⟨rfl, HB0.out.trans (HB.out.mono (by simp))⟩
set_option maxHeartbeats 2000000 in
theorem al1_calls (row : List PRq.S59) (A1 : Option Addr) (c1 : Nat) (g : Nat) (A : Option Addr) (c : Nat) (l : List Int) (t : ByteArray) (W : World) (hT : RTabs W) (hB : VHold W g A c l t) (hC : Kd.C PRq.k59 W A1 row.length row) (hok : row.all (okB l t) = true) :
    Calls Tryz.prog 58 #[.slice A1 row.length c1, .pointer (some ⟨g, 0, none⟩)] W fun e w' => e = .returned (.bool (okRow l t row)) ∧ Below W.heap.size W w' := by
  have hn := hC.2.1
  have hp : PredPlaces Tryz.prog 60 #[.pointer (some ⟨g, 0, none⟩)] (fun j => .agg #[.int .u8 (row.getD j PRq.z59).f0, .string (row.getD j PRq.z59).f1]) (fun j => notB l t (row.getD j PRq.z59)) row.length W := by
    intro j hj W' hb
    have hmem : row.getD j PRq.z59 ∈ row := by
      rw [List.getD_eq_getElem?_getD, List.getElem?_eq_getElem hj]
      exact List.getElem_mem hj
    have h1 := List.all_eq_true.1 hok _ hmem
    unfold okB at h1
    obtain ⟨r, hr⟩ := Option.isSome_iff_exists.1 h1
    refine (al11_calls (row.getD j PRq.z59) g A c l t W' (hT.below hb) (hB.below hb) r hr).mono ?_
    rintro e w' ⟨rfl, hb'⟩
    refine ⟨?_, hb'⟩
    show Ending.returned (Value.bool !r) = Ending.returned (Value.bool (notB l t (row.getD j PRq.z59)))
    unfold notB
    rw [hr]
    rfl
  have H := Aside0.mk (ContainsFunc_bounds 60 #[.pointer (some ⟨g, 0, none⟩)] (enters_of Tryz.func60 (by kernel_rfl) rfl) A1 row.length c1 (fun j => row.getD j PRq.z59) (fun j => notB l t (row.getD j PRq.z59)) W hn (bounds_of hC) hp)
  have E := Aside0.mk (anyP_list row PRq.z59 (notB l t))
  clear hp hC hT hok hB
  unfold okRow
  go_enter Tryz.func58, Tryz.ntmps58
  go_wp2_with (go_at_call 59; refine (H.out).mono ?_; rintro e w' ⟨rfl, hb⟩; have HB := Aside0.mk hb; clear hb)
  go_ret
  exact ⟨by rw [← E.out]; rfl, HB.out⟩
set_option maxRecDepth 100000 in
set_option maxHeartbeats 2000000 in
theorem Allows_bad (A0 : Option Addr) (c0 : Nat) (l0 : List (List PRq.S59)) (a1 : ByteArray) (w : World) (hr0 : Kd.C (Kd.slice 59 PRq.k59) w A0 l0.length l0) (hc0 : l0.length ≤ c0) (hT : RTabs w) (r1 : List Int) (r2 : ByteArray) (r3 : Int) (hp : version_Parse.f a1 = some (r1, r2, r3)) (h3 : (r3 != 0) = true) :
    Calls Tryz.prog 28 #[.slice A0 l0.length c0, .string a1] w fun e w' => e = .returned (.bool false) ∧ Below w.heap.size w w' := by
  have HP := Aside0.mk (version_Parse.calls a1 r1 r2 r3 w hT.v hp)
  have HT := Aside0.mk hT
  have HR := Aside0.mk hr0
  have HC := Aside0.mk hc0
  clear hp hT hr0 hc0
  go_enter Tryz.func28, Tryz.ntmps28
  go_wp2_with fail
  refine (HP.out).mono ?_
  rintro e W1 ⟨v0, rfl, hR, hb⟩
  have hsz := hb.size
  obtain ⟨A1, c1, rfl, hc1, hC1⟩ := Kd.R_reads hR
  have hbA : Below w.heap.size w (W1.alloc (.cells #[.slice A1 r1.length c1, .string r2] 24)) := hb.alloc (by omega) _
  have HB1 := Aside0.mk hbA
  have HV := Aside0.mk (VHold.mk (g := W1.heap.size) (heap_alloc_new W1 (.cells #[.slice A1 r1.length c1, .string r2] 24)) (Kd.C_alloc hC1 _) hc1)
  clear hb hR hC1 hc1 hbA
  go_wp2
  go_ret
  exact ⟨rfl, HB1.out⟩
set_option maxRecDepth 100000 in
set_option maxHeartbeats 2000000 in
theorem Allows_not (A0 : Option Addr) (c0 : Nat) (l0 : List (List PRq.S59)) (a1 : ByteArray) (w : World) (hr0 : Kd.C (Kd.slice 59 PRq.k59) w A0 l0.length l0) (hc0 : l0.length ≤ c0) (hT : RTabs w) (r1 : List Int) (r2 : ByteArray) (r3 : Int) (hp : version_Parse.f a1 = some (r1, r2, r3)) (h3 : (r3 != 0) = false) (hok : ranges_right.f l0 = some false) :
    Calls Tryz.prog 28 #[.slice A0 l0.length c0, .string a1] w fun e w' => e = .returned (.bool false) ∧ Below w.heap.size w w' := by
  have HOK := Aside0.mk hok
  clear hok
  have HP := Aside0.mk (version_Parse.calls a1 r1 r2 r3 w hT.v hp)
  have HT := Aside0.mk hT
  have HR := Aside0.mk hr0
  have HC := Aside0.mk hc0
  clear hp hT hr0 hc0
  go_enter Tryz.func28, Tryz.ntmps28
  go_wp2_with fail
  refine (HP.out).mono ?_
  rintro e W1 ⟨v0, rfl, hR, hb⟩
  have hsz := hb.size
  obtain ⟨A1, c1, rfl, hc1, hC1⟩ := Kd.R_reads hR
  have hbA : Below w.heap.size w (W1.alloc (.cells #[.slice A1 r1.length c1, .string r2] 24)) := hb.alloc (by omega) _
  have HB1 := Aside0.mk hbA
  have HV := Aside0.mk (VHold.mk (g := W1.heap.size) (heap_alloc_new W1 (.cells #[.slice A1 r1.length c1, .string r2] 24)) (Kd.C_alloc hC1 _) hc1)
  clear hb hR hC1 hc1 hbA
  go_wp2_with fail
  refine (ranges_right.calls _ _ l0 _ _ (Kd.C_below HR.out HB1.out) HC.out (HT.out.below HB1.out) HOK.out).mono ?_
  rintro e W2 ⟨rfl, hb2⟩
  have HB2 := Aside0.mk (HB1.out.trans (hb2.mono (by simp; omega)))
  have HV2 := Aside0.mk (HV.out.below hb2)
  clear hb2
  go_wp2
  go_ret
  exact ⟨rfl, HB2.out⟩
set_option maxRecDepth 100000 in
set_option maxHeartbeats 2000000 in
theorem Allows_none (A0 : Option Addr) (c0 : Nat) (l0 : List (List PRq.S59)) (a1 : ByteArray) (w : World) (hr0 : Kd.C (Kd.slice 59 PRq.k59) w A0 l0.length l0) (hc0 : l0.length ≤ c0) (hT : RTabs w) (r1 : List Int) (r2 : ByteArray) (r3 : Int) (hp : version_Parse.f a1 = some (r1, r2, r3)) (h3 : (r3 != 0) = false) (hok : ranges_right.f l0 = some true) (hl : ((l0.length : Int) == 0) = true) :
    Calls Tryz.prog 28 #[.slice A0 l0.length c0, .string a1] w fun e w' => e = .returned (.bool true) ∧ Below w.heap.size w w' := by
  have HOK := Aside0.mk hok
  clear hok
  have HP := Aside0.mk (version_Parse.calls a1 r1 r2 r3 w hT.v hp)
  have HT := Aside0.mk hT
  have HR := Aside0.mk hr0
  have HC := Aside0.mk hc0
  clear hp hT hr0 hc0
  go_enter Tryz.func28, Tryz.ntmps28
  go_wp2_with fail
  refine (HP.out).mono ?_
  rintro e W1 ⟨v0, rfl, hR, hb⟩
  have hsz := hb.size
  obtain ⟨A1, c1, rfl, hc1, hC1⟩ := Kd.R_reads hR
  have hbA : Below w.heap.size w (W1.alloc (.cells #[.slice A1 r1.length c1, .string r2] 24)) := hb.alloc (by omega) _
  have HB1 := Aside0.mk hbA
  have HV := Aside0.mk (VHold.mk (g := W1.heap.size) (heap_alloc_new W1 (.cells #[.slice A1 r1.length c1, .string r2] 24)) (Kd.C_alloc hC1 _) hc1)
  clear hb hR hC1 hc1 hbA
  go_wp2_with fail
  refine (ranges_right.calls _ _ l0 _ _ (Kd.C_below HR.out HB1.out) HC.out (HT.out.below HB1.out) HOK.out).mono ?_
  rintro e W2 ⟨rfl, hb2⟩
  have HB2 := Aside0.mk (HB1.out.trans (hb2.mono (by simp; omega)))
  have HV2 := Aside0.mk (HV.out.below hb2)
  clear hb2
  go_wp2
  go_ret
  exact ⟨rfl, HB2.out⟩
set_option maxRecDepth 100000 in
set_option maxHeartbeats 2000000 in
theorem Allows_some (A0 : Option Addr) (c0 : Nat) (l0 : List (List PRq.S59)) (a1 : ByteArray) (w : World) (hr0 : Kd.C (Kd.slice 59 PRq.k59) w A0 l0.length l0) (hc0 : l0.length ≤ c0) (hT : RTabs w) (r1 : List Int) (r2 : ByteArray) (r3 : Int) (hp : version_Parse.f a1 = some (r1, r2, r3)) (h3 : (r3 != 0) = false) (hok : ranges_right.f l0 = some true) (hl : ((l0.length : Int) == 0) = false) (hall : (l0.all fun row => row.all (okB r1 r2)) = true) :
    Calls Tryz.prog 28 #[.slice A0 l0.length c0, .string a1] w fun e w' => e = .returned (.bool (l0.any (okRow r1 r2))) ∧ Below w.heap.size w w' := by
  have HOK := Aside0.mk hok
  have HALL := Aside0.mk hall
  clear hok hall
  have HP := Aside0.mk (version_Parse.calls a1 r1 r2 r3 w hT.v hp)
  have HT := Aside0.mk hT
  have HR := Aside0.mk hr0
  have HC := Aside0.mk hc0
  clear hp hT hr0 hc0
  go_enter Tryz.func28, Tryz.ntmps28
  go_wp2_with fail
  refine (HP.out).mono ?_
  rintro e W1 ⟨v0, rfl, hR, hb⟩
  have hsz := hb.size
  obtain ⟨A1, c1, rfl, hc1, hC1⟩ := Kd.R_reads hR
  have hbA : Below w.heap.size w (W1.alloc (.cells #[.slice A1 r1.length c1, .string r2] 24)) := hb.alloc (by omega) _
  have HB1 := Aside0.mk hbA
  have HV := Aside0.mk (VHold.mk (g := W1.heap.size) (heap_alloc_new W1 (.cells #[.slice A1 r1.length c1, .string r2] 24)) (Kd.C_alloc hC1 _) hc1)
  clear hb hR hC1 hc1 hbA
  go_wp2_with fail
  refine (ranges_right.calls _ _ l0 _ _ (Kd.C_below HR.out HB1.out) HC.out (HT.out.below HB1.out) HOK.out).mono ?_
  rintro e W2 ⟨rfl, hb2⟩
  have HB2 := Aside0.mk (HB1.out.trans (hb2.mono (by simp; omega)))
  have HV2 := Aside0.mk (HV.out.below hb2)
  clear hb2
  have hr2 : Kd.C (Kd.slice 59 PRq.k59) W2 A0 l0.length l0 := Kd.C_below HR.out HB2.out
  have hp : PredPlaces Tryz.prog 58 #[.pointer (some ⟨W1.heap.size, 0, none⟩)] (rowV W2 A0) (fun j => okRow r1 r2 (l0.getD j [])) l0.length W2 := by
    intro j hj W' hb
    obtain ⟨A2, c2, e1, h1, h2⟩ := rowV_at hr2 j hj
    have hmem : l0.getD j [] ∈ l0 := by
      rw [List.getD_eq_getElem?_getD, List.getElem?_eq_getElem hj]
      exact List.getElem_mem hj
    rw [e1]
    exact al1_calls (l0.getD j []) A2 c2 W1.heap.size A1 c1 r1 r2 W' ((HT.out.below HB2.out).below hb) (HV2.out.below hb) (Kd.C_below h2 hb) (List.all_eq_true.1 HALL.out _ hmem)
  have H := Aside0.mk (ContainsFunc_rows 58 #[.pointer (some ⟨W1.heap.size, 0, none⟩)] (enters_of Tryz.func58 (by kernel_rfl) rfl) A0 l0.length c0 (rowV W2 A0) (fun j => okRow r1 r2 (l0.getD j [])) W2 hr2.2.1 (rows_of hr2) hp)
  have E := Aside0.mk (anyP_list l0 [] (okRow r1 r2))
  have hsz2 : w.heap.size ≤ W2.heap.size := HB2.out.size
  clear hp hr2
  go_wp2_with fail
  refine (H.out).mono ?_
  rintro e W3 ⟨rfl, hb3⟩
  have HB3 := Aside0.mk (HB2.out.trans (hb3.mono hsz2))
  clear hb3
  go_wp2
  go_ret
  exact ⟨by rw [← E.out]; rfl, HB3.out⟩
theorem ranges_Allows.calls (A0 : Option Addr) (c0 : Nat) (l0 : List (List PRq.S59)) (a1 : ByteArray) (r : Bool) (w : World) (hr0 : Kd.C (Kd.slice 59 PRq.k59) w A0 l0.length l0) (hc0 : l0.length ≤ c0) (hT : RTabs w) (h : ranges_Allows.f l0 a1 = some r) :
    Calls Tryz.prog 28 #[.slice A0 l0.length c0, .string a1] w fun e w' => e = .returned (.bool r) ∧ Below w.heap.size w w' := by
  unfold ranges_Allows.f at h
  obtain ⟨⟨r1, r2, r3⟩, hp, h⟩ := Option.bind_eq_some_iff.mp h
  by_cases h3 : r3 = 0
  · rw [if_pos h3] at h
    have h3' : (r3 != 0) = false := by simp [h3]
    obtain ⟨ok, hok, h⟩ := Option.bind_eq_some_iff.mp h
    cases ok with
    | false =>
      rw [if_neg (by decide)] at h
      obtain rfl := Option.some.inj h
      exact Allows_not A0 c0 l0 a1 w hr0 hc0 hT r1 r2 r3 hp h3' hok
    | true =>
      rw [if_pos rfl] at h
      by_cases hl : l0.length = 0
      · rw [if_pos hl] at h
        obtain rfl := Option.some.inj h
        exact Allows_none A0 c0 l0 a1 w hr0 hc0 hT r1 r2 r3 hp h3' hok (by simpa using hl)
      · rw [if_neg hl] at h
        by_cases hall : (l0.all fun row => row.all (okB r1 r2)) = true
        · rw [if_pos hall] at h
          obtain rfl := Option.some.inj h
          exact Allows_some A0 c0 l0 a1 w hr0 hc0 hT r1 r2 r3 hp h3' hok (by simpa using hl) hall
        · rw [if_neg hall] at h
          cases h
  · rw [if_neg h3] at h
    obtain rfl := Option.some.inj h
    exact Allows_bad A0 c0 l0 a1 w hr0 hc0 hT r1 r2 r3 hp (by simpa using h3)
end Go.Proofs.YtnbmdecehlljcaaGreatDoor
namespace Go.Proofs.YtnbmdecehlljcaaGreatDoor
open Go.RowKit Go.Shelf Go.Proofs.YtnbmdecehlljcaaGreatDoorW.PrintWords Go.Proofs.YtnbmdecehlljcaaGreatDoorW.PrintLast Go.Proofs.YtnbmdecehlljcaaGreatDoorW.PrintMore
set_option linter.unusedVariables false
set_option linter.unusedSimpArgs false
def splitB (c : UInt8) (s : ByteArray) : List ByteArray := (splitOn c s.data.toList).map fun l => ⟨l.toArray⟩
theorem splitB_lists (c : UInt8) (s : ByteArray) : (splitB c s).map (·.data.toList) = splitOn c s.data.toList := by
  unfold splitB
  rw [List.map_map]
  conv => rhs; rw [← List.map_id (splitOn c s.data.toList)]
  apply List.map_congr_left
  intro l _
  rfl
theorem splitOn_le (c : UInt8) : ∀ (l p : List UInt8), p ∈ splitOn c l → p.length ≤ l.length
  | [], p, h => by
    simp [splitOn] at h
    simp [h]
  | b :: t, p, h => by
    have ih := splitOn_le c t
    unfold splitOn at h
    split at h
    · rcases List.mem_cons.1 h with h | h
      · simp [h]
      · have := ih p h
        simp
        omega
    · split at h
      · next q r e =>
        rw [e] at ih
        rcases List.mem_cons.1 h with h | h
        · have := ih q (List.mem_cons_self ..)
          simp [h]
          omega
        · have := ih p (List.mem_cons_of_mem _ h)
          simp
          omega
      · simp at h
        simp [h]
theorem splitB_le {c : UInt8} {s x : ByteArray} {i : Nat} (h : (splitB c s)[i]? = some x) : x.size ≤ s.size := by
  unfold splitB at h
  rw [List.getElem?_map] at h
  obtain ⟨l, hl, e⟩ := Option.map_eq_some_iff.1 h
  have := splitOn_le c _ l (List.mem_of_getElem? hl)
  subst e
  show l.toArray.size ≤ s.data.size
  simpa using this
def boundF (x : ByteArray) : Option (Int × ByteArray × Bool) := PRb.ranges_bound.f 12 x
/-- The bounds of a row, on from those that are there; none: one may not be. -/
def rowF : List ByteArray → List PRq.S59 → Option (Option (List PRq.S59))
  | [], acc => some (some acc)
  | x :: xs, acc => (boundF x).bind fun b => if b.2.2 = false ∨ acc.length = 16 then some none else rowF xs (acc ++ [⟨b.1, b.2.1⟩])
/-- The rows of a range. -/
def rowsF : List ByteArray → List (List PRq.S59) → Option (Option (List (List PRq.S59)))
  | [], acc => some (some acc)
  | p :: ps, acc => (rowF (splitB 44 p) []).bind fun o => match o with
    | none => some none
    | some row => if acc.length = 16 then some none else rowsF ps (acc ++ [row])
def outF (o : Option (List (List PRq.S59))) : List (List PRq.S59) × Int := match o with
  | none => ([], 140)
  | some r => (r, 0)
def ranges_Parse.f (a0 : ByteArray) : Option (List (List PRq.S59) × Int) := if a0.size ≤ 4294967280 then (rowsF (splitB 124 a0) []).map outF else none
/-- Between two rounds of the outer loop; when a round has left. -/
def OutI (w : World) (res : Option (List (List PRq.S59))) (xs : List ByteArray) (i : Nat) (W : World) : Prop :=
  ∃ acc rv, Boxed W w.heap.size 42 (.slice none 0 0) ∧ Boxed W (w.heap.size + 1) 26 (.int .i64 0) ∧ Boxed W (w.heap.size + 2) 42 rv ∧
    Kd.S (Kd.slice 59 PRq.k59) 47 W (w.heap.size + 8) (fun _ => True) rv acc ∧ acc.length ≤ 16 ∧ rowsF (xs.drop i) acc = some res ∧ Below w.heap.size w W
def OutX (w : World) (res : Option (List (List PRq.S59))) (c : Code) (W : World) : Prop :=
  c = .ret ∧ res = none ∧ Boxed W w.heap.size 42 (.slice none 0 0) ∧ Boxed W (w.heap.size + 1) 26 (.int .i64 140) ∧ Below w.heap.size w W
theorem Below_oth {N lo hi : Nat} {w A B : World} (h : Below N w A) (k : Oth lo hi A B) (hN : N ≤ lo) (hz : N ≤ w.heap.size) : Below N w B :=
  ⟨k.os.trans h.os, k.tape.trans h.tape, k.output.trans h.output, Nat.le_trans h.size k.size, fun j hj => (k.same j (by have := h.size; omega) (by omega)).trans (h.block j hj)⟩
theorem Boxed_oth {lo hi b : Nat} {A B : World} {t : TypeId} {v : Value} (h : Boxed A b t v) (k : Oth lo hi A B) (hb : b < lo) : Boxed B b t v := (k.same b (Boxed.lt h) (by omega)).trans h
theorem OutI.oth {w : World} {res : Option (List (List PRq.S59))} {xs : List ByteArray} {i : Nat} {A B : World} (h : OutI w res xs i A) (k : Oth (w.heap.size + 3) (w.heap.size + 8) A B) : OutI w res xs i B := by
  obtain ⟨acc, rv, h1, h2, h3, h4, h5, h6, h7⟩ := h
  exact ⟨acc, rv, Boxed_oth h1 k (by omega), Boxed_oth h2 k (by omega), Boxed_oth h3 k (by omega), Kd.S_mono (Kd.S_step (Kd.S_bound h4) (fun j hj hlt => k.same j hlt (by have := hj.2.1; omega))) (fun _ hk => hk.1), h5, h6, Below_oth h7 k (by omega) (Nat.le_refl _)⟩
theorem OutX.oth {w : World} {res : Option (List (List PRq.S59))} {c : Code} {A B : World} (h : OutX w res c A) (k : Oth (w.heap.size + 3) (w.heap.size + 8) A B) : OutX w res c B := by
  obtain ⟨h0, h1, h2, h3, h4⟩ := h
  exact ⟨h0, h1, Boxed_oth h2 k (by omega), Boxed_oth h3 k (by omega), Below_oth h4 k (by omega) (Nat.le_refl _)⟩
/-- The same of the inner loop, of a round that began in V. -/
def InI (V : World) (o : Option (List PRq.S59)) (ys : List ByteArray) (j : Nat) (W : World) : Prop :=
  ∃ row rv, Boxed W V.heap.size 47 rv ∧ Kd.R PRq.k59 59 W (V.heap.size + 5) (fun _ => True) rv row ∧ row.length ≤ 16 ∧ rowF (ys.drop j) row = some o ∧ Below V.heap.size V W
def InX (N : Nat) (V : World) (o : Option (List PRq.S59)) (c : Code) (W : World) : Prop :=
  c = .ret ∧ o = none ∧ Boxed W N 42 (.slice none 0 0) ∧ Boxed W (N + 1) 26 (.int .i64 140) ∧ Oth N (N + 2) V W
theorem InI.oth {V : World} {o : Option (List PRq.S59)} {ys : List ByteArray} {j : Nat} {A B : World} (h : InI V o ys j A) (k : Oth (V.heap.size + 1) (V.heap.size + 5) A B) : InI V o ys j B := by
  obtain ⟨row, rv, h1, h2, h3, h4, h5⟩ := h
  exact ⟨row, rv, Boxed_oth h1 k (by omega), Kd.R_mono (Kd.R_step (Kd.R_bound h2) (fun j hj hlt => k.same j hlt (by have := hj.2.1; omega))) (fun _ hk => hk.1), h3, h4, Below_oth h5 k (by omega) (Nat.le_refl _)⟩
theorem InX.oth {N : Nat} {V : World} {o : Option (List PRq.S59)} {c : Code} {A B : World} (hN : N + 2 ≤ V.heap.size) (h : InX N V o c A) (k : Oth (V.heap.size + 1) (V.heap.size + 5) A B) : InX N V o c B := by
  obtain ⟨h0, h1, h2, h3, h4⟩ := h
  exact ⟨h0, h1, Boxed_oth h2 k (by omega), Boxed_oth h3 k (by omega), ⟨k.os.trans h4.os, k.tape.trans h4.tape, k.output.trans h4.output, Nat.le_trans h4.size k.size, fun j hj hn => (k.same j (by have := h4.size; omega) (by omega)).trans (h4.same j hj hn)⟩⟩
section
attribute [local go_sem] Oper.semAt_some
set_option maxRecDepth 100000 in
set_option maxHeartbeats 4000000 in
theorem Parse_in (n : Nat) (hn : 8 ≤ n) (s : ByteArray) (hs : s.size ≤ 4294967280) (res : Option (List (List PRq.S59))) (w : World) (hT : RTabs w) (h : rowsF (splitB 124 s) [] = some res) :
    CallsIn Fence.wide n Tryz.prog 22 #[.string s] w fun e w' => ∃ v0_ : Value, e = .returned (.tuple #[v0_, .int .i64 (outF res).2]) ∧ Kd.S (Kd.slice 59 PRq.k59) 47 w' w.heap.size (fun _ => True) v0_ (outF res).1 ∧ Below w.heap.size w w' := by
  have h1 : 1 ≤ n := by omega
  have HT := Aside0.mk hT
  have HRES := Aside0.mk h
  clear hT h
  refine callsIn_of_wp_marks Tryz.func22 rfl trivial ?_ rfl
  simp only [Tryz.ntmps22, List.size_toArray, List.length_cons, List.length_nil, Nat.reduceAdd, Nat.reduceSub, Array.replicate_succ, Array.replicate_zero, List.push_toArray, List.append_toArray, List.nil_append, List.cons_append]
  gi_wp2_with (refine ⟨trivial, ?_⟩; gi_at_call 49; refine (callsIn_wide.2 (SplitSeq_calls s ⟨#[124]⟩ _)).mono ?_; rintro e w' ⟨rfl, rfl⟩)
  have b0 := ((((Boxed.new w 42 (.slice none 0 0)).alloc (.cells #[.int .i64 0] 26)).alloc (.cells #[.slice none 0 0] 42)).alloc (.cells #[.string s] 9)).alloc (.cells #[.string ⟨#[124]⟩] 9) |>.alloc (.cells #[.int .i64 0] 3)
  have b1 := (((Boxed.new (w.alloc (.cells #[.slice none 0 0] 42)) 26 (.int .i64 0)).alloc (.cells #[.slice none 0 0] 42)).alloc (.cells #[.string s] 9)).alloc (.cells #[.string ⟨#[124]⟩] 9) |>.alloc (.cells #[.int .i64 0] 3)
  have b2 := ((Boxed.new ((w.alloc (.cells #[.slice none 0 0] 42)).alloc (.cells #[.int .i64 0] 26)) 42 (.slice none 0 0)).alloc (.cells #[.string s] 9)).alloc (.cells #[.string ⟨#[124]⟩] 9) |>.alloc (.cells #[.int .i64 0] 3)
  have b3 := (Boxed.new (((w.alloc (.cells #[.slice none 0 0] 42)).alloc (.cells #[.int .i64 0] 26)).alloc (.cells #[.slice none 0 0] 42)) 9 (.string s)).alloc (.cells #[.string ⟨#[124]⟩] 9) |>.alloc (.cells #[.int .i64 0] 3)
  have b4 := (Boxed.new ((((w.alloc (.cells #[.slice none 0 0] 42)).alloc (.cells #[.int .i64 0] 26)).alloc (.cells #[.slice none 0 0] 42)).alloc (.cells #[.string s] 9)) 9 (.string ⟨#[124]⟩)).alloc (.cells #[.int .i64 0] 3)
  have b5 := (Boxed.new (((((w.alloc (.cells #[.slice none 0 0] 42)).alloc (.cells #[.int .i64 0] 26)).alloc (.cells #[.slice none 0 0] 42)).alloc (.cells #[.string s] 9)).alloc (.cells #[.string ⟨#[124]⟩] 9)) 3 (.int .i64 0))
  simp only [World.size_alloc] at b1 b2 b3 b4 b5
  have hB0 : Below w.heap.size w ((((((w.alloc (.cells #[.slice none 0 0] 42)).alloc (.cells #[.int .i64 0] 26)).alloc (.cells #[.slice none 0 0] 42)).alloc (.cells #[.string s] 9)).alloc (.cells #[.string ⟨#[124]⟩] 9)).alloc (.cells #[.int .i64 0] 3)) :=
    ((((((Below.refl _ w).alloc (Nat.le_refl _) _).alloc (by simp) _).alloc (by simp; omega) _).alloc (by simp; omega) _).alloc (by simp; omega) _).alloc (by simp; omega) _
  have hsz : ((((((w.alloc (.cells #[.slice none 0 0] 42)).alloc (.cells #[.int .i64 0] 26)).alloc (.cells #[.slice none 0 0] 42)).alloc (.cells #[.string s] 9)).alloc (.cells #[.string ⟨#[124]⟩] 9)).alloc (.cells #[.int .i64 0] 3)).heap.size = w.heap.size + 6 := by simp
  obtain ⟨W0, hW0⟩ : ∃ W0, (((((w.alloc (.cells #[.slice none 0 0] 42)).alloc (.cells #[.int .i64 0] 26)).alloc (.cells #[.slice none 0 0] 42)).alloc (.cells #[.string s] 9)).alloc (.cells #[.string ⟨#[124]⟩] 9)).alloc (.cells #[.int .i64 0] 3) = W0 := ⟨_, rfl⟩
  rw [hW0] at b0 b1 b2 b3 b4 b5 hB0 hsz ⊢
  clear hW0
  have hsz7 : (W0.alloc (.deferred (some []))).heap.size = w.heap.size + 7 := by rw [World.size_alloc, hsz]
  have hoD : ∀ k, k < w.heap.size + 6 → (W0.alloc (.deferred (some []))).heap[k]? = W0.heap[k]? := fun k hk => Below.heap_alloc _ _ k (by omega)
  refine range_core (W0.alloc (.deferred (some []))) [{ target := .collected W0.heap.size, args := #[] }] W0.heap.size
    (fun fn => by have := run_enterLoop_outer (P := Tryz.prog) (w := W0) fn; rw [World.size_alloc]; exact this _ _ _ _)
    h1 (gf := 112) (lb := #[.pointer (some ⟨w.heap.size + 3 + 1, 0, none⟩), .pointer (some ⟨w.heap.size + 3, 0, none⟩), .pointer (some ⟨w.heap.size + 3 + 2, 0, none⟩)]) rfl trivial (enters_of Tryz.func112 (by kernel_rfl) rfl)
    Value.string (splitB 124 s) (w.heap.size + 3) 3 (by omega) (by omega) ?hit rfl (OutI w res (splitB 124 s)) (OutX w res)
    (fun i A B hA k => OutI.oth hA (by rw [hsz7] at k; exact k)) (fun c A B hA k => OutX.oth hA (by rw [hsz7] at k; exact k)) ?h0 ?a1 ?hassign ?hbody ?hdone ?hstop
  case hit =>
    intro W1 hs1 ho1
    refine split_iter (n - 1) (by omega) 124 s hs (splitB 124 s) (splitB_lists _ _) (w.heap.size + 3) _ W1 ?_ ?_ ?_
    · exact (ho1 _ (by omega)).trans ((hoD _ (by omega)).trans b3)
    · exact (ho1 _ (by omega)).trans ((hoD _ (by omega)).trans b4)
    · exact (ho1 _ (by omega)).trans ((hoD _ (by omega)).trans b5)
  case h0 => exact ⟨[], .slice none 0 0, (hoD _ (by omega)).trans b0, (hoD _ (by omega)).trans b1, (hoD _ (by omega)).trans b2, Kd.S_nil _ _ _ _ _, by simp, HRES.out, hB0.alloc (by omega) _⟩
  case hassign =>
    intro x W K hK
    gi_wp2
    exact hK
  case hbody =>
    rintro i x V hx ⟨r0, hr0⟩ hblk ⟨acc, rv, d1, d2, d3, d4, d5, d6, d7⟩
    have hxs : x.size ≤ 4294967280 := Nat.le_trans (splitB_le hx) hs
    rw [hsz7] at hr0
    have hVs : w.heap.size + 8 ≤ V.heap.size := by have := (Array.getElem?_eq_some_iff.1 hr0).1; omega
    obtain ⟨hil, hix⟩ := List.getElem?_eq_some_iff.1 hx
    rw [List.drop_eq_getElem_cons hil, hix] at d6
    unfold rowsF at d6
    obtain ⟨o, ho, d6⟩ := Option.bind_eq_some_iff.mp d6
    have D6 := Aside0.mk d6
    have HO := Aside0.mk ho
    clear d6 ho hx hix
    have h2 : 1 ≤ n - 1 - 1 := by omega
    gi_wp2_with (refine ⟨trivial, ?_⟩; gi_at_call 49; refine (CallsIn.inRound _ (callsIn_wide.2 (SplitSeq_calls x ⟨#[44]⟩ _))).mono ?_; rintro e w' ⟨rfl, rfl⟩)
    have m0 := ((((Boxed.new V 47 (.slice none 0 0)).alloc (.cells #[.string x] 9)).alloc (.cells #[.string ⟨#[44]⟩] 9)).alloc (.cells #[.int .i64 0] 3))
    have m1 := (((Boxed.new (V.alloc (.cells #[.slice none 0 0] 47)) 9 (.string x)).alloc (.cells #[.string ⟨#[44]⟩] 9)).alloc (.cells #[.int .i64 0] 3))
    have m2 := ((Boxed.new ((V.alloc (.cells #[.slice none 0 0] 47)).alloc (.cells #[.string x] 9)) 9 (.string ⟨#[44]⟩)).alloc (.cells #[.int .i64 0] 3))
    have m3 := (Boxed.new (((V.alloc (.cells #[.slice none 0 0] 47)).alloc (.cells #[.string x] 9)).alloc (.cells #[.string ⟨#[44]⟩] 9)) 3 (.int .i64 0))
    simp only [World.size_alloc] at m1 m2 m3
    have hB1 : Below V.heap.size V ((((V.alloc (.cells #[.slice none 0 0] 47)).alloc (.cells #[.string x] 9)).alloc (.cells #[.string ⟨#[44]⟩] 9)).alloc (.cells #[.int .i64 0] 3)) :=
      ((((Below.refl _ V).alloc (Nat.le_refl _) _).alloc (by simp) _).alloc (by simp; omega) _).alloc (by simp; omega) _
    have hsz1 : ((((V.alloc (.cells #[.slice none 0 0] 47)).alloc (.cells #[.string x] 9)).alloc (.cells #[.string ⟨#[44]⟩] 9)).alloc (.cells #[.int .i64 0] 3)).heap.size = V.heap.size + 4 := by simp
    obtain ⟨V0, hV0⟩ : ∃ V0, (((V.alloc (.cells #[.slice none 0 0] 47)).alloc (.cells #[.string x] 9)).alloc (.cells #[.string ⟨#[44]⟩] 9)).alloc (.cells #[.int .i64 0] 3) = V0 := ⟨_, rfl⟩
    rw [hV0] at m0 m1 m2 m3 hB1 hsz1 ⊢
    clear hV0
    have hr1 : V0.heap[(W0.alloc (.deferred (some []))).heap.size]? = some (.loop r0) := by rw [hsz7]; exact (hB1.block _ (by omega)).trans hr0
    refine range_core V0 [] r0.defers (fun fn => run_enterLoop_inner hr1 fn _ _ _ _)
      h2 (gf := 112) (lb := #[.pointer (some ⟨V.heap.size + 1 + 1, 0, none⟩), .pointer (some ⟨V.heap.size + 1, 0, none⟩), .pointer (some ⟨V.heap.size + 1 + 2, 0, none⟩)]) rfl trivial (enters_of Tryz.func112 (by kernel_rfl) rfl)
      Value.string (splitB 44 x) (V.heap.size + 1) 3 (by omega) (by omega) ?hit2 rfl (InI V o (splitB 44 x)) (InX w.heap.size V o)
      (fun i A B hA k => InI.oth hA (by rw [hsz1] at k; exact k)) (fun c A B hA k => InX.oth (by omega) hA (by rw [hsz1] at k; exact k)) ?h02 ?a2 ?hassign2 ?hbody2 ?hdone2 ?hstop2
    case hit2 =>
      intro W1 hs1 ho1
      refine split_iter (n - 1 - 1 - 1) (by omega) 44 x hxs (splitB 44 x) (splitB_lists _ _) (V.heap.size + 1) _ W1 ?_ ?_ ?_
      · exact (ho1 _ (by omega)).trans m1
      · exact (ho1 _ (by omega)).trans m2
      · exact (ho1 _ (by omega)).trans m3
    case h02 => exact ⟨[], .slice none 0 0, m0, Kd.R_nil _ _ _ _ _, by simp, HO.out, hB1⟩
    case hassign2 =>
      intro y W K hK
      gi_wp2
      exact hK
    case hbody2 =>
      rintro j y A hy hrec2 hblk2 ⟨row, rv2, e1, e2, e3, e4, e5⟩
      obtain ⟨hjl, hjx⟩ := List.getElem?_eq_some_iff.1 hy
      rw [List.drop_eq_getElem_cons hjl, hjx] at e4
      unfold rowF at e4
      obtain ⟨⟨p1, p2, p3⟩, hp, e4⟩ := Option.bind_eq_some_iff.mp e4
      have HP := Aside0.mk hp
      have E4 : (if p3 = false ∨ row.length = 16 then some none else rowF (List.drop (j + 1) (splitB 44 x)) (row ++ [⟨p1, p2⟩])) = some o := e4
      have E5 := Aside0.mk E4
      clear e4 hp hjx E4 hy
      have hTA := (HT.out.below (d7.trans (e5.mono (by omega))))
      have HTA := Aside0.mk hTA
      clear hTA
      have g1 : Boxed A w.heap.size 42 (.slice none 0 0) := (e5.block _ (by omega)).trans d1
      have g2 : Boxed A (w.heap.size + 1) 26 (.int .i64 0) := (e5.block _ (by omega)).trans d2
      obtain ⟨A2, c2, rfl, _, _⟩ := Kd.R_reads e2
      have hu59 := Tryz.underlying59
      have h4n : 1 ≤ n - 1 - 1 - 1 - 1 := by omega
      have hA5 : V.heap.size + 5 ≤ A.heap.size := by obtain ⟨r, hr⟩ := hrec2; have := (Array.getElem?_eq_some_iff.1 hr).1; omega
      cases p3 with
      | false =>
        obtain rfl : o = none := by
          have := E5.out
          rw [if_pos (.inl rfl)] at this
          exact (Option.some.inj this).symm
        have HQ := Aside0.mk E5.out
        gi_wp2_with (refine ⟨trivial, ?_⟩; gi_at_call 50; refine (CallsIn.inRound _ (CallsIn.inRound _ (callsIn_wide.2 (PRb.ranges_bound.calls 12 y p1 p2 false A HTA.out HP.out)))).mono ?_; rintro e A3 ⟨rfl, hbA⟩; have hz3 := hbA.size; have n1 : w.heap.size < A3.heap.size := (by omega); have n2 : w.heap.size + 1 < A3.heap.size := (by omega); have n3 : V.heap.size < A3.heap.size := (by omega); have k1 := (hbA.block _ (by omega)).trans g1; have k2 := (hbA.block _ (by omega)).trans g2; have k4 := (hbA.block _ (by omega)).trans e1; have x1 := Boxed.cell k1; have x2 := Boxed.cell k2; have x4 := Boxed.cell k4; have y1 := Boxed.frozen k1; have y2 := Boxed.frozen k2; have y4 := Boxed.frozen k4; have K1 := Aside0.mk k1; have K2 := Aside0.mk k2; have K4 := Aside0.mk k4; have HBA := Aside0.mk hbA; clear k1 k2 k4 hbA)
        exact ⟨⟨by simp; omega, fun k h3 h4 => (Below.heap_alloc _ _ _ (by simp; omega)).trans ((Below.heap_setCell _ _ _ _ (by show k ≠ w.heap.size + 1; omega)).trans ((Below.heap_setCell _ _ _ _ (by show k ≠ w.heap.size; omega)).trans (HBA.out.block _ (by omega))))⟩, rfl, rfl,
          Boxed.alloc (Boxed.other (Boxed.set _ K1.out) (by omega) _) _, Boxed.alloc (Boxed.set _ (Boxed.other K2.out (by omega) _)) _,
          ⟨HBA.out.os.trans e5.os, HBA.out.tape.trans e5.tape, HBA.out.output.trans e5.output, by have := e5.size; simp; omega, fun k hk hn => (Below.heap_alloc _ _ _ (by have := e5.size; simp; omega)).trans ((Below.heap_setCell _ _ _ _ (by show k ≠ w.heap.size + 1; omega)).trans ((Below.heap_setCell _ _ _ _ (by show k ≠ w.heap.size; omega)).trans ((HBA.out.block _ (by have := e5.size; omega)).trans (e5.block _ hk))))⟩⟩
      | true =>
        by_cases h16 : row.length = 16
        · have hq : ((row.length : Int) == 16) = true := by simp [h16]
          obtain rfl : o = none := by
            have := E5.out
            rw [if_pos (.inr h16)] at this
            exact (Option.some.inj this).symm
          have HQ := Aside0.mk h16
          clear h16
          gi_wp2_with (refine ⟨trivial, ?_⟩; gi_at_call 50; refine (CallsIn.inRound _ (CallsIn.inRound _ (callsIn_wide.2 (PRb.ranges_bound.calls 12 y p1 p2 true A HTA.out HP.out)))).mono ?_; rintro e A3 ⟨rfl, hbA⟩; have hz3 := hbA.size; have n1 : w.heap.size < A3.heap.size := (by omega); have n2 : w.heap.size + 1 < A3.heap.size := (by omega); have n3 : V.heap.size < A3.heap.size := (by omega); have k1 := (hbA.block _ (by omega)).trans g1; have k2 := (hbA.block _ (by omega)).trans g2; have k4 := (hbA.block _ (by omega)).trans e1; have x1 := Boxed.cell k1; have x2 := Boxed.cell k2; have x4 := Boxed.cell k4; have y1 := Boxed.frozen k1; have y2 := Boxed.frozen k2; have y4 := Boxed.frozen k4; have K1 := Aside0.mk k1; have K2 := Aside0.mk k2; have K4 := Aside0.mk k4; have HBA := Aside0.mk hbA; clear k1 k2 k4 hbA)
          exact ⟨⟨by simp; omega, fun k h3 h4 => (Below.heap_alloc _ _ _ (by simp; omega)).trans ((Below.heap_setCell _ _ _ _ (by show k ≠ w.heap.size + 1; omega)).trans ((Below.heap_setCell _ _ _ _ (by show k ≠ w.heap.size; omega)).trans (HBA.out.block _ (by omega))))⟩, rfl, rfl,
            Boxed.alloc (Boxed.other (Boxed.set _ K1.out) (by omega) _) _, Boxed.alloc (Boxed.set _ (Boxed.other K2.out (by omega) _)) _,
            ⟨HBA.out.os.trans e5.os, HBA.out.tape.trans e5.tape, HBA.out.output.trans e5.output, by have := e5.size; simp; omega, fun k hk hn => (Below.heap_alloc _ _ _ (by have := e5.size; simp; omega)).trans ((Below.heap_setCell _ _ _ _ (by show k ≠ w.heap.size + 1; omega)).trans ((Below.heap_setCell _ _ _ _ (by show k ≠ w.heap.size; omega)).trans ((HBA.out.block _ (by have := e5.size; omega)).trans (e5.block _ hk))))⟩⟩
        · have hq : ((row.length : Int) == 16) = false := by simp; omega
          have E6 := Aside0.mk (show rowF (List.drop (j + 1) (splitB 44 x)) (row ++ [⟨p1, p2⟩]) = some o by have := E5.out; rwa [if_neg (by simp [h16])] at this)
          have H16 : row.length < 16 := by omega
          clear h16
          gi_wp2_with (first | (refine ⟨trivial, ?_⟩; gi_at_call 50; refine (CallsIn.inRound _ (CallsIn.inRound _ (callsIn_wide.2 (PRb.ranges_bound.calls 12 y p1 p2 true A HTA.out HP.out)))).mono ?_; rintro e A3 ⟨rfl, hbA⟩; have hz3 := hbA.size; have n1 : w.heap.size < A3.heap.size := (by omega); have n2 : w.heap.size + 1 < A3.heap.size := (by omega); have n3 : V.heap.size < A3.heap.size := (by omega); have k1 := (hbA.block _ (by omega)).trans g1; have k2 := (hbA.block _ (by omega)).trans g2; have k4 := (hbA.block _ (by omega)).trans e1; have x1 := Boxed.cell k1; have x2 := Boxed.cell k2; have x4 := Boxed.cell k4; have y1 := Boxed.frozen k1; have y2 := Boxed.frozen k2; have y4 := Boxed.frozen k4; have K1 := Aside0.mk k1; have K2 := Aside0.mk k2; have K4 := Aside0.mk k4; have HBA := Aside0.mk hbA; clear k1 k2 k4 hbA) | (gi_at_builtin; refine R_in_append PRq.k59 (w0 := A) (V.heap.size + 5) rfl (.tmp 28) (.tmp 30) 47 59 (.agg #[.int .u8 0, .string ⟨#[]⟩]) 24 rfl Tryz.underlying47 PRq.info59 rfl (by decide) (by omega) (.slice A2 row.length c2) row ⟨p1, p2⟩ [.int .u8 p1, .string p2] (fun _ => True) (fun _ => False) rfl (congrArg (fun z => Value.slice (some ⟨z, 0, none⟩) 1 1) (World.size_alloc _ _).symm) (PRq.k59_mkM _ _ _ ⟨p1, p2⟩) (fun _ h => h.elim) (fun _ _ => trivial) (Kd.R_alloc (Kd.R_below e2 HBA.out) _) ((HBA.out.mono (by omega)).alloc (by omega) _) (by simp; omega) (by omega) ?_; intro v1 w1 hR1 hb1 hg1 _; obtain ⟨A4, c4, rfl, _, _⟩ := Kd.R_reads hR1; have z1 := Boxed.frozen (show Boxed w1 V.heap.size 47 (.slice A2 row.length c2) from (hb1.block _ (by omega)).trans e1); have z2 := Boxed.cell (show Boxed w1 V.heap.size 47 (.slice A2 row.length c2) from (hb1.block _ (by omega)).trans e1)))
          rw [show (row ++ [(⟨p1, p2⟩ : PRq.S59)]).length = row.length + 1 from by simp] at hR1
          have u1 : Boxed w1 V.heap.size 47 (.slice A2 row.length c2) := (hb1.block _ (by omega)).trans e1
          exact ⟨⟨by simp; exact hb1.size, fun k h3 h4 => (Below.heap_setCell _ _ _ _ (by simp only []; omega)).trans (hb1.block _ (by omega))⟩, row ++ [⟨p1, p2⟩], .slice A4 (row.length + 1) c4, Boxed.set _ u1,
            Kd.R_mono (Kd.R_step (Kd.R_bound hR1) (fun k hk hlt => Below.heap_setCell _ _ _ _ (by have := hk.2.1; simp only []; omega))) (fun _ hk => hk.1), by rw [List.length_append, List.length_singleton]; omega, E6.out,
            Below_oth (lo := V.heap.size) (hi := V.heap.size + 1) (e5.trans (hb1.mono (by omega))) ⟨rfl, rfl, rfl, by simp, fun k hk hn => Below.heap_setCell _ _ _ _ (by simp only []; omega)⟩ (Nat.le_refl _) (Nat.le_refl _)⟩
    case hdone2 =>
      rintro W ⟨row, rv2, e1, e2, e3, e4, e5⟩ hD hlt
      obtain rfl : o = some row := by
        rw [List.drop_length] at e4
        exact (Option.some.inj e4).symm
      have D7 : (if acc.length = 16 then some none else rowsF (List.drop (i + 1) (splitB 124 s)) (acc ++ [row])) = some res := D6.out
      have g1 : Boxed W w.heap.size 42 (.slice none 0 0) := (e5.block _ (by omega)).trans d1
      have g2 : Boxed W (w.heap.size + 1) 26 (.int .i64 0) := (e5.block _ (by omega)).trans d2
      have g3 : Boxed W (w.heap.size + 2) 42 rv := (e5.block _ (by omega)).trans d3
      obtain ⟨A2, c2, rfl, _, _⟩ := Kd.R_reads e2
      obtain ⟨A1, c1, rfl, _, _⟩ := Kd.S_reads d4
      have x1 := Boxed.cell g1
      have x2 := Boxed.cell g2
      have x3 := Boxed.cell g3
      have x4 := Boxed.cell e1
      have y1 := Boxed.frozen g1
      have y2 := Boxed.frozen g2
      have D8 := Aside0.mk D7
      clear D7 D6 HO e4
      by_cases h16 : acc.length = 16
      · obtain rfl : res = none := by
          have := D8.out
          rw [if_pos h16] at this
          exact (Option.some.inj this).symm
        have hq : ((acc.length : Int) == 16) = true := by simp [h16]
        have H16 := Aside0.mk h16
        clear h16
        gi_wp2
        exact ⟨⟨by simp; exact e5.size, fun k h3 h4 => (Below.heap_setCell _ _ _ _ (by simp only []; omega)).trans ((Below.heap_setCell _ _ _ _ (by simp only []; omega)).trans (e5.block _ (by omega)))⟩, rfl, rfl,
          Boxed.other (Boxed.set _ g1) (by omega) _, Boxed.set _ (Boxed.other g2 (by omega) _),
          Below_oth (lo := w.heap.size) (hi := w.heap.size + 2) (d7.trans (e5.mono (by omega))) ⟨rfl, rfl, rfl, by simp, fun k hk hn => (Below.heap_setCell _ _ _ _ (by simp only []; omega)).trans (Below.heap_setCell _ _ _ _ (by simp only []; omega))⟩ (Nat.le_refl _) (Nat.le_refl _)⟩
      · have hq : ((acc.length : Int) == 16) = false := by simp; omega
        have D9 : rowsF (List.drop (i + 1) (splitB 124 s)) (acc ++ [row]) = some res := by
          have := D8.out
          rwa [if_neg h16] at this
        have DX := Aside0.mk D9
        have H16 : acc.length < 16 := by omega
        clear D9 D8 h16
        have hv1 : ∀ k, (Value.slice A1 acc.length c1).ownBlock = some k → k < V.heap.size := fun k hk => ((Kd.S_R (Kd.S_bound d4)).1 k hk).2.2.1
        have hv2 : ∀ k, (Value.slice A2 row.length c2).ownBlock = some k → V.heap.size + 5 ≤ k := fun k hk => by
          obtain ⟨inner, ho⟩ := Kd.R_own e2
          exact own_base ho k hk
        have hS0 : Kd.S (Kd.slice 59 PRq.k59) 47 W (w.heap.size + 8) (fun k => True ∧ ¬ some k = (Value.slice A2 row.length c2).ownBlock) (.slice A1 acc.length c1) acc :=
          Kd.S_mono (Kd.S_step (Kd.S_bound d4) (fun k hk hlt => e5.block k hlt)) (fun k hk => ⟨trivial, fun e => by have := hv2 k e.symm; have := hk.2.2.1; omega⟩)
        gi_wp2_with (gi_at_builtin; refine S_in_append (Kd.slice 59 PRq.k59) (w0 := V) (w.heap.size + 8) rfl (.tmp 35) (.tmp 37) 42 47 (.slice none 0 0) 24 rfl Tryz.underlying42 PRq.info47 rfl (by decide) (by omega) (.slice A1 acc.length c1) acc row [.slice A2 row.length c2] (fun _ => True) (fun k => some k = (Value.slice A2 row.length c2).ownBlock) rfl rfl (Kd.M_row (Kd.R_mono (Kd.R_tight rfl (Kd.R_lower e2 (by omega))) (fun _ h => h))) (fun k hk => ⟨trivial, fun e => by have := hv2 k hk.symm; have := hv1 k e.symm; omega⟩) (fun _ _ => trivial) hS0 (e5.mono (by omega)) (by have := e5.size; omega) (by omega) ?_; intro v1 w1 hS1 hb1 hg1 _; obtain ⟨A3, c3, rfl, _, _⟩ := Kd.S_reads hS1; have z1 := Boxed.frozen (show Boxed w1 (w.heap.size + 2) 42 (.slice A1 acc.length c1) from (hb1.block _ (by omega)).trans d3); have z2 := Boxed.cell (show Boxed w1 (w.heap.size + 2) 42 (.slice A1 acc.length c1) from (hb1.block _ (by omega)).trans d3))
        rw [show (acc ++ [row]).length = acc.length + 1 from by simp] at hS1
        have u1 : Boxed w1 w.heap.size 42 (.slice none 0 0) := (hb1.block _ (by omega)).trans d1
        have u2 : Boxed w1 (w.heap.size + 1) 26 (.int .i64 0) := (hb1.block _ (by omega)).trans d2
        have u3 : Boxed w1 (w.heap.size + 1 + 1) 42 (.slice A1 acc.length c1) := (hb1.block _ (by omega)).trans d3
        exact ⟨⟨by simp; exact hb1.size, fun k h3 h4 => (Below.heap_setCell _ _ _ _ (by simp only []; omega)).trans (hb1.block _ (by omega))⟩, acc ++ [row], .slice A3 (acc.length + 1) c3,
          Boxed.other u1 (by omega) _, Boxed.other u2 (by omega) _, Boxed.set _ u3,
          Kd.S_mono (Kd.S_step (Kd.S_bound hS1) (fun k hk hlt => Below.heap_setCell _ _ _ _ (by have := hk.2.1; simp only []; omega))) (fun _ hk => hk.1), by rw [List.length_append, List.length_singleton]; omega, DX.out,
          Below_oth (lo := w.heap.size) (hi := w.heap.size + 3) (d7.trans (hb1.mono (by omega))) ⟨rfl, rfl, rfl, by simp, fun k hk hn => Below.heap_setCell _ _ _ _ (by simp only []; omega)⟩ (Nat.le_refl _) (Nat.le_refl _)⟩
    case hstop2 =>
      rintro c W ⟨rfl, rfl, k1, k2, k3⟩ hD hlt
      obtain rfl : res = none := (Option.some.inj D6.out).symm
      gi_wp2
      exact ⟨⟨k3.size, fun k h3 h4 => k3.same k (by omega) (by omega)⟩, rfl, rfl, k1, k2, Below_oth d7 k3 (Nat.le_refl _) (Nat.le_refl _)⟩
  case hdone =>
    rintro W ⟨acc, rv, d1, d2, d3, d4, d5, d6, d7⟩ hD hlt
    obtain ⟨A1, c1, rfl, e2, e3⟩ := Kd.S_reads d4
    have hK : W.heap[W0.heap.size]? = some (.deferred (some [])) := (hD _ (by omega) (by omega)).trans (World.alloc_heap_new W0 _)
    obtain rfl : res = some acc := by
      rw [List.drop_length] at d6
      exact (Option.some.inj d6).symm
    have g1 := Boxed.cell d1
    have g2 := Boxed.cell d2
    have g3 := Boxed.cell d3
    have f1 := Boxed.frozen d1
    have f2 := Boxed.frozen d2
    gi_wp2
    have hK' : ((W.setCell ⟨w.heap.size, 0, none⟩ (.slice A1 acc.length c1)).setCell ⟨w.heap.size + 1, 0, none⟩ (.int .i64 0)).heap[W0.heap.size]? = some (.deferred (some [])) :=
      (Below.heap_setCell _ _ _ _ (by simp only []; omega)).trans ((Below.heap_setCell _ _ _ _ (by simp only []; omega)).trans hK)
    refine ⟨by simp, .inl ⟨_, _, rfl, run_takeDeferred hK', ?_⟩⟩
    have p1 : Boxed (((W.setCell ⟨w.heap.size, 0, none⟩ (.slice A1 acc.length c1)).setCell ⟨w.heap.size + 1, 0, none⟩ (.int .i64 0)).putObj W0.heap.size (.deferred none)) w.heap.size 42 (.slice A1 acc.length c1) :=
      (World.putObj_heap_other (by omega)).trans (Boxed.other (Boxed.set (.slice A1 acc.length c1) d1) (by omega) (.int .i64 0))
    have p2 : Boxed (((W.setCell ⟨w.heap.size, 0, none⟩ (.slice A1 acc.length c1)).setCell ⟨w.heap.size + 1, 0, none⟩ (.int .i64 0)).putObj W0.heap.size (.deferred none)) (w.heap.size + 1) 26 (.int .i64 0) :=
      (World.putObj_heap_other (by omega)).trans (Boxed.set (.int .i64 0) (Boxed.other d2 (by omega) (.slice A1 acc.length c1)))
    have q1 := Boxed.cell p1
    have q2 := Boxed.cell p2
    have hfin : Below w.heap.size w (((W.setCell ⟨w.heap.size, 0, none⟩ (.slice A1 acc.length c1)).setCell ⟨w.heap.size + 1, 0, none⟩ (.int .i64 0)).putObj W0.heap.size (.deferred none)) :=
      Below_oth (lo := w.heap.size) (hi := w.heap.size + 7) d7 ⟨rfl, rfl, rfl, by simp, fun k hk hn => (World.putObj_heap_other (by omega)).trans ((Below.heap_setCell _ _ _ _ (by simp only []; omega)).trans (Below.heap_setCell _ _ _ _ (by simp only []; omega)))⟩ (Nat.le_refl _) (Nat.le_refl _)
    have hS : Kd.S (Kd.slice 59 PRq.k59) 47 (((W.setCell ⟨w.heap.size, 0, none⟩ (.slice A1 acc.length c1)).setCell ⟨w.heap.size + 1, 0, none⟩ (.int .i64 0)).putObj W0.heap.size (.deferred none)) w.heap.size (fun _ => True) (.slice A1 acc.length c1) acc :=
      Kd.S_lower (Kd.S_mono (Kd.S_step (Kd.S_bound d4) (fun k hk hlt => (World.putObj_heap_other (by have := hk.2.1; omega)).trans ((Below.heap_setCell _ _ _ _ (by have := hk.2.1; simp only []; omega)).trans (Below.heap_setCell _ _ _ _ (by have := hk.2.1; simp only []; omega))))) (fun _ hk => hk.1)) (by omega)
    exact ⟨.tuple #[.slice A1 acc.length c1, .int .i64 0], by simp [results, Tryz.results22, go_sem, q1, q2], _, rfl, hS, hfin⟩
  case hstop => 
    rintro c W ⟨rfl, rfl, d1, d2, d3⟩ hD hlt
    have hK : W.heap[W0.heap.size]? = some (.deferred (some [])) := (hD _ (by omega) (by omega)).trans (World.alloc_heap_new W0 _)
    have g1 := Boxed.cell d1
    have g2 := Boxed.cell d2
    gi_wp2
    refine ⟨by simp, .inl ⟨_, _, rfl, run_takeDeferred hK, ?_⟩⟩
    have p1 : Boxed (W.putObj W0.heap.size (.deferred none)) w.heap.size 42 (.slice none 0 0) := (World.putObj_heap_other (by omega)).trans d1
    have p2 : Boxed (W.putObj W0.heap.size (.deferred none)) (w.heap.size + 1) 26 (.int .i64 140) := (World.putObj_heap_other (by omega)).trans d2
    have q1 := Boxed.cell p1
    have q2 := Boxed.cell p2
    have hfin : Below w.heap.size w (W.putObj W0.heap.size (.deferred none)) :=
      Below_oth (lo := w.heap.size) (hi := w.heap.size + 7) d3 ⟨rfl, rfl, rfl, by simp, fun k hk hn => World.putObj_heap_other (by omega)⟩ (Nat.le_refl _) (Nat.le_refl _)
    exact ⟨.tuple #[.slice none 0 0, .int .i64 140], by simp [results, Tryz.results22, go_sem, q1, q2], _, rfl, Kd.S_nil _ _ _ _ _, hfin⟩
end
theorem ranges_Parse.calls (a0 : ByteArray) (r1 : List (List PRq.S59)) (r2 : Int) (w : World) (hT : RTabs w) (h : ranges_Parse.f a0 = some (r1, r2)) :
    Calls Tryz.prog 22 #[.string a0] w fun e w' => ∃ v0_ : Value, e = .returned (.tuple #[v0_, .int .i64 r2]) ∧ Kd.S (Kd.slice 59 PRq.k59) 47 w' w.heap.size (fun _ => True) v0_ r1 ∧ Below w.heap.size w w' := by
  unfold ranges_Parse.f at h
  split at h
  · next hs =>
    obtain ⟨res, hr, e⟩ := Option.map_eq_some_iff.1 h
    have e1 : r1 = (outF res).1 := by rw [e]
    have e2 : r2 = (outF res).2 := by rw [e]
    subst e1
    subst e2
    exact callsIn_wide.1 (Parse_in 8 (by omega) a0 hs res w hT hr)
  · cases h
end Go.Proofs.YtnbmdecehlljcaaGreatDoor
