/- Plain law: RefuteText. -/
import Derived.Test.YtghecdmcghppnaaDoorRefJ
import Derived.Test.YtghecdmcghppnaaDoorRefK
import Derived.Test.YtghecdmcghppnaaDoorPCnfx21
import Derived.Test.YtghecdmcghppnaaDoorPCnfx22
namespace Go.Proofs.YtghecdmcghppnaaDoor
open Go.RowKit Go.Proofs.YtghecdmcghppnaaDoorW.PrintWords Go.Proofs.YtghecdmcghppnaaDoorW.PrintLast Go.Proofs.YtghecdmcghppnaaDoorW.PrintMore PCnf
open Go.Lib (decDigits nDigits)
set_option linter.unusedVariables false
set_option linter.unusedSimpArgs false
theorem ba_len (s : ByteArray) : s.size = s.data.toList.length := Lib.size_eq s
theorem bt_nat (s : ByteArray) (i : Nat) (h : i < s.data.toList.length) : bt s (i : Int) = ((s.data.toList[i]'h).toNat : Int) := by
  unfold bt
  rw [dif_pos (by rw [ba_len]; simpa using h)]
  rfl
theorem ext_list (s : ByteArray) (i j : Nat) : (s.extract i j).data.toList = (s.data.toList.drop i).take (j - i) := by
  simp [ByteArray.data_extract, Array.toList_extract, List.extract_eq_take_drop]
theorem one_num (d : Nat) (hd : d < 10) : strOfNums [(wrap64 (48 + (d : Int))) % 256] = ⟨#[UInt8.ofNat (48 + d)]⟩ := by
  have e : (wrap64 (48 + (d : Int))) % 256 = ((48 + d : Nat) : Int) := by rw [wrap_id (by omega) (by omega)]; omega
  rw [e]
  unfold strOfNums
  simp only [List.map_cons, List.map_nil, Int.toNat_natCast]
theorem digits_l0 : ∀ (m n : Nat) (acc : ByteArray), n < 10 ^ (m + 1) → m ≤ 9 → acc.size + m ≤ 1000 → Ev (fun k => tithebarnref18_digits.l0 k (n : Int) acc) (⟨(decDigits n ++ acc.data.toList).toArray⟩ : ByteArray) := by
  intro m
  induction m with
  | zero =>
    intro n acc hn _ ha
    have h10 : n < 10 := by simpa using hn
    have h1 := one_num n h10
    refine Ev.step (f := fun _ => some (⟨(decDigits n ++ acc.data.toList).toArray⟩ : ByteArray)) (fun k => ?_) (Ev.now _)
    simp only [tithebarnref18_digits.l0]
    rw [if_neg (by omega), Option.bind_some, h1, if_pos (by show 1 + acc.size ≤ _; omega), Lib.decDigits_one h10]
    congr 1
  | succ m ih =>
    intro n acc hn hm ha
    by_cases h10 : n < 10
    · have h1 := one_num n h10
      refine Ev.step (f := fun _ => some (⟨(decDigits n ++ acc.data.toList).toArray⟩ : ByteArray)) (fun k => ?_) (Ev.now _)
      simp only [tithebarnref18_digits.l0]
      rw [if_neg (by omega), Option.bind_some, h1, if_pos (by show 1 + acc.size ≤ _; omega), Lib.decDigits_one h10]
      congr 1
    · have hmod : n % 10 < 10 := Nat.mod_lt _ (by omega)
      have h1 := one_num (n % 10) hmod
      have hdiv : n / 10 < 10 ^ (m + 1) := by
        rw [Nat.div_lt_iff_lt_mul (by omega)]
        rwa [Nat.pow_succ] at hn
      have := ih (n / 10) ((⟨#[UInt8.ofNat (48 + n % 10)]⟩ : ByteArray) ++ acc) hdiv (by omega) (by rw [ByteArray.size_append]; show 1 + acc.size + m ≤ 1000; omega)
      have e2 : decDigits (n / 10) ++ ((⟨#[UInt8.ofNat (48 + n % 10)]⟩ : ByteArray) ++ acc).data.toList = decDigits n ++ acc.data.toList := by
        conv => rhs; rw [decDigits, dif_neg h10]
        simp [ByteArray.data_append]
      rw [e2] at this
      refine Ev.step (fun k => ?_) this
      simp only [tithebarnref18_digits.l0]
      have et : Int.tmod (n : Int) 10 = ((n % 10 : Nat) : Int) := by rw [Int.tmod_eq_emod_of_nonneg (by omega)]; omega
      have ed : Int.tdiv (n : Int) 10 = ((n / 10 : Nat) : Int) := by rw [Int.tdiv_eq_ediv_of_nonneg (by omega)]; omega
      have hb : (n / 10 : Nat) ≤ 9223372036854775807 := by
        have h : (10 : Nat) ^ (m + 1) ≤ 10 ^ 10 := Nat.pow_le_pow_right (by omega) (by omega)
        have : (10 : Nat) ^ 10 = 10000000000 := by decide
        omega
      rw [if_pos (by omega), Option.bind_some, et, h1, if_pos (by show 1 + acc.size ≤ _; omega), ed, wrap_id (by omega) (by omega)]
theorem digits_pos (n : Int) (h0 : 0 ≤ n) (h1 : n ≤ 100000) : Ev (fun k => tithebarnref18_digits.f k n) (⟨(decDigits n.toNat).toArray⟩ : ByteArray) := by
  have h := digits_l0 8 n.toNat ⟨#[]⟩ (by have : (10 : Nat) ^ 9 = 1000000000 := by decide
                                          omega) (by omega) (by decide)
  rw [Int.toNat_of_nonneg h0] at h
  have e : (decDigits n.toNat ++ (⟨#[]⟩ : ByteArray).data.toList) = decDigits n.toNat := List.append_nil _
  rw [e] at h
  refine Ev.step (fun k => ?_) h
  simp only [tithebarnref18_digits.f]
  rw [if_neg (by omega)]
theorem digits_ev (n : Int) (h0 : -100000 ≤ n) (h1 : n ≤ 100000) : Ev (fun k => tithebarnref18_digits.f k n) (⟨(Lib.itoa n).toArray⟩ : ByteArray) := by
  by_cases hn : n < 0
  · have h := digits_pos (-n) (by omega) (by omega)
    have hl := dec_len6 (u := (-n).toNat) (by omega)
    have e : Lib.itoa n = 45 :: decDigits (-n).toNat := by
      unfold Lib.itoa
      rw [if_pos hn, show n.natAbs = (-n).toNat by omega]
    refine Ev.step (fun k => by
      simp only [tithebarnref18_digits.f]
      rw [if_pos hn, wrap_id (by omega) (by omega)]) (Ev.bind h ?_)
    rw [if_pos (by rw [ba_len]; show 1 + (decDigits (-n).toNat).length ≤ _; omega), e]
    exact Ev.congr (fun k => congrArg some (by apply ByteArray.ext; simp [ByteArray.data_append])) (Ev.now _)
  · have h := digits_pos n (by omega) h1
    have e : Lib.itoa n = decDigits n.toNat := by
      unfold Lib.itoa
      rw [if_neg hn]
    rw [e]
    exact h
/-- What printing answers. -/
def printX (l : List (List Int)) : ByteArray × Int := (⟨(if allR l then rowsT l else []).toArray⟩, if allR l then 0 else 2)
theorem print18_l0 (l : List (List Int)) (ht : total l ≤ 1000) (hl : l.length ≤ 1000) : ∀ (d i : Nat), i + d = l.length → allR (l.take i) = true →
    Ev (fun k => tithebarnref18_Print.l0 k l ⟨(rowsT (l.take i)).toArray⟩ (i : Int)) (printX l) := by
  intro d
  induction d with
  | zero =>
    intro i hi ha
    have e : i = l.length := by omega
    subst e
    rw [List.take_length] at ha ⊢
    refine Ev.step (f := fun _ => some (printX l)) (fun k => ?_) (Ev.now _)
    simp only [tithebarnref18_Print.l0]
    rw [if_neg (by omega)]
    unfold printX
    rw [ha]
    rfl
  | succ d ih =>
    intro i hi ha
    have hil : i < l.length := by omega
    have hc := total_get l i hil
    have hA := rowsT_len _ ha
    have hB := total_take_le l i
    have hC : (l.take i).length ≤ 1000 := by rw [List.length_take]; omega
    have hD : ((l.take i).map List.length).sum = total (l.take i) := rfl
    have inner : ∀ (e j : Nat), j + e = (l.getD i []).length → ((l.getD i []).take j).all litR = true →
        Ev (fun k => tithebarnref18_Print.l1 k l ⟨(rowsT (l.take i) ++ ((l.getD i []).take j).flatMap litT).toArray⟩ (i : Int) (j : Int)) (printX l) := by
      intro e
      induction e with
      | zero =>
        intro j hj hr
        have ej : j = (l.getD i []).length := by omega
        subst ej
        rw [List.take_length] at hr ⊢
        have hE := litsT_len _ hr
        have := ih (i + 1) (by omega) (by rw [allR_snoc l i hil, ha, hr]; rfl)
        rw [rowsT_snoc l i hil] at this
        refine Ev.step (fun k => ?_) this
        simp only [tithebarnref18_Print.l1]
        rw [if_pos (by omega), if_pos (by omega), rdL_nat, if_neg (by omega), if_pos (by rw [ba_len]; show (rowsT (l.take i) ++ (l.getD i []).flatMap litT).length + 2 ≤ _; rw [List.length_append]; omega), wrap_id (by omega) (by omega)]
        congr 1
        apply ByteArray.ext
        simp [ByteArray.data_append, rowT]
      | succ e ihe =>
        intro j hj hr
        have hjl : j < (l.getD i []).length := by omega
        have hE := litsT_len _ hr
        have hF : ((l.getD i []).take j).length ≤ 1000 := by rw [List.length_take]; omega
        cases hx : litR ((l.getD i []).getD j 0) with
        | false =>
          have hno := allR_no hil hjl hx
          refine Ev.step (f := fun _ => some (printX l)) (fun k => ?_) (Ev.now _)
          have hx' : ¬ ((l.getD i []).getD j 0 ≠ 0 ∧ -100000 ≤ (l.getD i []).getD j 0 ∧ (l.getD i []).getD j 0 ≤ 100000) := fun h => by
            rw [litR_iff.2 h] at hx
            cases hx
          simp only [tithebarnref18_Print.l1]
          rw [if_pos (by omega), if_pos (by omega), rdL_nat, if_pos (by omega), if_pos (by omega), rd_nat]
          have eX : some ((⟨#[]⟩ : ByteArray), (2 : Int)) = some (printX l) := by unfold printX; rw [hno]; rfl
          by_cases z1 : (l.getD i []).getD j 0 = 0
          · rw [if_pos z1, eX]
          · by_cases z2 : (l.getD i []).getD j 0 > 100000
            · rw [if_neg z1, if_pos z2, eX]
            · rw [if_neg z1, if_neg z2, if_pos (by omega), eX]
        | true =>
          have hx' := litR_iff.1 hx
          have hd := digits_ev ((l.getD i []).getD j 0) (by omega) (by omega)
          have hlen := Lib.itoa_length_le ((l.getD i []).getD j 0) (by omega) (by omega)
          have := ihe (j + 1) (by omega) (by rw [all_snoc _ j hjl, hr, hx]; rfl)
          rw [litsT_snoc _ j hjl] at this
          refine Ev.step (fun k => by
            simp only [tithebarnref18_Print.l1]
            rw [if_pos (by omega), if_pos (by omega), rdL_nat, if_pos (by omega), if_pos (by omega), rd_nat, if_neg (by omega), if_neg (by omega), if_neg (by omega)]) (Ev.bind hd ?_)
          have hS : (⟨(rowsT (l.take i) ++ ((l.getD i []).take j).flatMap litT).toArray⟩ : ByteArray).size ≤ 100000 := by
            rw [ba_len]
            show (rowsT (l.take i) ++ ((l.getD i []).take j).flatMap litT).length ≤ _
            rw [List.length_append]
            omega
          have hT : (⟨(Lib.itoa ((l.getD i []).getD j 0)).toArray⟩ : ByteArray).size ≤ 21 := by
            rw [ba_len]
            exact hlen
          refine EvR.pos (by omega) (EvR.pos (by rw [ByteArray.size_append]; omega) ?_)
          rw [wrap_id (by omega) (by omega)]
          refine Ev.congr (fun k => ?_) this
          congr 1
          apply ByteArray.ext
          simp [ByteArray.data_append]
    refine Ev.step (fun k => ?_) (inner _ 0 (Nat.zero_add _) rfl)
    simp only [tithebarnref18_Print.l0]
    rw [if_pos (by omega)]
    simp
theorem print18_ev (l : List (List Int)) (ht : total l ≤ 1000) (hl : l.length ≤ 1000) : Ev (fun k => tithebarnref18_Print.f k l) (printX l) := print18_l0 l ht hl l.length 0 (Nat.zero_add _) rfl
/-- What the reference's literal answers. -/
def litM : Nat → Int → List UInt8 → Int
  | i, acc, [] => if acc > 100000 then 0 else acc
  | i, acc, b :: r => if isD b = false then 0 else if i = 0 ∧ b.toNat = 48 then 0 else if i > 5 then 0 else litM (i + 1) (acc * 10 + ((b.toNat : Int) - 48)) r
def refL : List UInt8 → Int
  | [] => litM 0 0 []
  | b :: r => if b = 45 then -refL r else litM 0 0 (b :: r)
theorem litM_bounds : ∀ (l : List UInt8) (i : Nat) (acc : Int), 0 ≤ acc → 0 ≤ litM i acc l ∧ litM i acc l ≤ 100000
  | [], i, acc, h => by unfold litM; split <;> omega
  | b :: r, i, acc, h => by
    unfold litM
    split
    · omega
    · rename_i hb
      have hb' : 48 ≤ b.toNat ∧ b.toNat ≤ 57 := by simpa [isD] using hb
      split
      · omega
      · split
        · omega
        · exact litM_bounds r _ _ (by omega)
theorem refL_bounds : ∀ l : List UInt8, -100000 ≤ refL l ∧ refL l ≤ 100000
  | [] => by decide
  | b :: r => by
    unfold refL
    split
    · have := refL_bounds r
      omega
    · have := litM_bounds (b :: r) 0 0 (by omega)
      omega
theorem litM_fold : ∀ (l : List UInt8) (i acc : Nat), l.all isD = true → i + l.length ≤ 6 → (i = 0 → ∃ c r, l = c :: r ∧ c.toNat ≠ 48) → foldD acc l ≤ 100000 → litM i (acc : Int) l = (foldD acc l : Int)
  | [], i, acc, _, _, _, h => by
    unfold litM
    have : foldD acc [] = acc := rfl
    rw [if_neg (by omega), this]
  | b :: r, i, acc, h1, h2, h3, h4 => by
    simp only [List.all_cons, Bool.and_eq_true] at h1
    have hb : 48 ≤ b.toNat ∧ b.toNat ≤ 57 := by simpa [isD] using h1.1
    simp only [List.length_cons] at h2
    unfold litM
    rw [if_neg (by rw [h1.1]; simp), if_neg (by
      rintro ⟨hi, hz⟩
      obtain ⟨c, r', e, hc⟩ := h3 hi
      cases e
      exact hc hz), if_neg (by omega), show (acc : Int) * 10 + ((b.toNat : Int) - 48) = ((acc * 10 + (b.toNat - 48) : Nat) : Int) by omega, litM_fold r (i + 1) _ h1.2 (by omega) (fun h => by omega) h4]
    rfl
theorem refL_itoa {x : Int} (h : litR x = true) : refL (Lib.itoa x) = x := by
  have hx := litR_iff.1 h
  have key : ∀ u : Nat, 1 ≤ u → u ≤ 100000 → litM 0 0 (decDigits u) = u := fun u h1 h2 => by
    obtain ⟨f1, f2, c, r, f3, f4⟩ := dec_facts u
    have := litM_fold (decDigits u) 0 0 f1 (by have := dec_len6 h2; omega) (fun _ => ⟨c, r, f3, f4 h1⟩) (by rw [f2]; exact h2)
    rw [f2] at this
    exact this
  have key2 : ∀ u : Nat, 1 ≤ u → u ≤ 100000 → refL (decDigits u) = u := fun u h1 h2 => by
    have k := key u h1 h2
    obtain ⟨f1, f2, c, r, f3, f4⟩ := dec_facts u
    rw [f3] at k f1 ⊢
    have hc : 48 ≤ c.toNat ∧ c.toNat ≤ 57 := by
      simp only [List.all_cons, Bool.and_eq_true] at f1
      simpa [isD] using f1.1
    unfold refL
    rw [if_neg (by rintro rfl; revert hc; decide), k]
  unfold Lib.itoa
  split
  · rename_i hn
    show (if (45 : UInt8) = 45 then -refL (decDigits x.natAbs) else _) = x
    rw [if_pos rfl, key2 x.natAbs (by omega) (by omega)]
    omega
  · rename_i hn
    rw [key2 x.toNat (by omega) (by omega)]
    omega
theorem wordX_ref (w : List UInt8) : wordX w = if refL w = 0 then none else if Lib.itoa (refL w) = w then some (refL w) else none := by
  have hb := refL_bounds w
  by_cases h0 : refL w = 0
  · rw [if_pos h0]
    cases h : wordX w with
    | none => rfl
    | some x =>
      obtain ⟨h1, h2⟩ := wordX_iff.1 h
      have := refL_itoa h1
      rw [h2, h0] at this
      have := (litR_iff.1 h1).1
      omega
  · rw [if_neg h0]
    by_cases he : Lib.itoa (refL w) = w
    · rw [if_pos he]
      exact wordX_iff.2 ⟨litR_iff.2 ⟨h0, hb⟩, he⟩
    · rw [if_neg he]
      cases h : wordX w with
      | none => rfl
      | some x =>
        obtain ⟨h1, h2⟩ := wordX_iff.1 h
        have := refL_itoa h1
        rw [h2] at this
        rw [this, h2] at he
        exact absurd rfl he
theorem lit_l0 (s : ByteArray) (hs : s.size ≤ 1000000) : ∀ (d i : Nat) (acc : Int), i + d = s.size → i ≤ 6 → 0 ≤ acc → acc < 10 ^ i → Ev (fun k => tithebarnref18_literal.l0 k s acc (i : Int)) (litM i acc (s.data.toList.drop i)) := by
  have hsl := ba_len s
  intro d
  induction d with
  | zero =>
    intro i acc hi h6 h0 hp
    rw [List.drop_eq_nil_of_le (by omega)]
    refine Ev.step (f := fun _ => some (litM i acc [])) (fun k => ?_) (Ev.now _)
    simp only [tithebarnref18_literal.l0]
    rw [if_neg (by omega)]
    unfold litM
    split <;> rfl
  | succ d ih =>
    intro i acc hi h6 h0 hp
    have hil : i < s.data.toList.length := by omega
    rw [List.drop_eq_getElem_cons hil]
    have hb := bt_nat s i hil
    generalize s.data.toList[i] = b at *
    have hb2 : b.toNat < 256 := b.toNat_lt
    have hz : ∀ k, tithebarnref18_literal.l0 (k + 1) s acc (i : Int) = (if (b.toNat : Int) < 48 then some 0 else if (b.toNat : Int) > 57 then some 0 else if (i : Int) = 0 then (if (b.toNat : Int) = 48 then some 0 else (if (i : Int) > 5 then some 0 else tithebarnref18_literal.l0 k s (wrap64 ((wrap64 (acc * 10)) + ((b.toNat : Int) - 48) % 256)) (wrap64 ((i : Int) + 1)))) else (if (i : Int) > 5 then some 0 else tithebarnref18_literal.l0 k s (wrap64 ((wrap64 (acc * 10)) + ((b.toNat : Int) - 48) % 256)) (wrap64 ((i : Int) + 1)))) := fun k => by
      simp only [tithebarnref18_literal.l0]
      rw [if_pos (by omega), if_pos (by omega), hb]
    unfold litM
    by_cases hd : isD b = false
    · rw [if_pos hd]
      refine Ev.step (f := fun _ => some 0) (fun k => ?_) (Ev.now _)
      rw [hz]
      have : ¬ (48 ≤ b.toNat ∧ b.toNat ≤ 57) := fun h => by
        have : isD b = true := by simpa [isD] using h
        rw [this] at hd
        cases hd
      by_cases q : (b.toNat : Int) < 48
      · rw [if_pos q]
      · rw [if_neg q, if_pos (by omega)]
    · rw [if_neg hd]
      have hd' : 48 ≤ b.toNat ∧ b.toNat ≤ 57 := by simpa [isD] using hd
      by_cases hz0 : i = 0 ∧ b.toNat = 48
      · rw [if_pos hz0]
        refine Ev.step (f := fun _ => some 0) (fun k => ?_) (Ev.now _)
        rw [hz, if_neg (by omega), if_neg (by omega), if_pos (by omega), if_pos (by omega)]
      · rw [if_neg hz0]
        by_cases h5 : i > 5
        · rw [if_pos h5]
          refine Ev.step (f := fun _ => some 0) (fun k => ?_) (Ev.now _)
          rw [hz, if_neg (by omega), if_neg (by omega), if_neg (by omega), if_pos (by omega)]
        · rw [if_neg h5]
          have hpw : (10 : Int) ^ i ≤ 10 ^ 6 := by
            have : (10 : Nat) ^ i ≤ 10 ^ 6 := Nat.pow_le_pow_right (by omega) (by omega)
            exact_mod_cast this
          have hps : (10 : Int) ^ (i + 1) = 10 ^ i * 10 := Int.pow_succ ..
          have h6' : (10 : Int) ^ 6 = 1000000 := by decide
          refine Ev.step (fun k => ?_) (ih (i + 1) (acc * 10 + ((b.toNat : Int) - 48)) (by omega) (by omega) (by omega) (by omega))
          rw [hz, if_neg (by omega), if_neg (by omega), wrap_id (x := acc * 10) (by omega) (by omega), wrap_id (x := (i : Int) + 1) (by omega) (by omega), wrap_id (by omega) (by omega), show ((b.toNat : Int) - 48) % 256 = (b.toNat : Int) - 48 by omega]
          by_cases i0 : i = 0
          · rw [if_pos (by omega), if_neg (by omega), if_neg (by omega)]
            rfl
          · rw [if_neg (by omega), if_neg (by omega)]
            rfl
theorem lit_ev : ∀ (n : Nat) (s : ByteArray), s.size = n → n ≤ 1000000 → Ev (fun k => tithebarnref18_literal.f k s) (refL s.data.toList) := by
  intro n
  induction n with
  | zero =>
    intro s hs _
    have hsl := ba_len s
    have hl : s.data.toList = [] := List.length_eq_zero_iff.1 (by omega)
    have h := lit_l0 s (by omega) 0 0 0 (by omega) (by omega) (by omega) (by decide)
    rw [hl] at h ⊢
    refine Ev.step (f := fun k => tithebarnref18_literal.j0 k s false) (fun k => ?_) (Ev.step (fun k => ?_) h)
    · simp only [tithebarnref18_literal.f]
      rw [if_pos (by rw [Lib.toList_data]; exact hl)]
    · simp only [tithebarnref18_literal.j0]
      rw [if_neg (by decide)]
      rfl
  | succ n ih =>
    intro s hs hn
    have hsl := ba_len s
    have hil : 0 < s.data.toList.length := by omega
    have hb := bt_nat s 0 hil
    obtain ⟨b, r, hl⟩ : ∃ b r, s.data.toList = b :: r := by
      cases h : s.data.toList with
      | nil => rw [h] at hil; simp at hil
      | cons b r => exact ⟨b, r, rfl⟩
    have hb' : bt s 0 = (b.toNat : Int) := by
      have e : s.data.toList[0] = b := by simp [hl]
      rw [e] at hb
      exact hb
    have hf : ∀ k, tithebarnref18_literal.f (k + 1) s = tithebarnref18_literal.j0 k s ((b.toNat : Int) == 45) := fun k => by
      simp only [tithebarnref18_literal.f]
      rw [if_neg (by rw [Lib.toList_data, hl]; simp), if_pos (by omega), hb']
    rw [hl]
    unfold refL
    by_cases h45 : b = 45
    · rw [if_pos h45]
      have e : (s.extract 1 s.size).data.toList = r := by
        rw [ext_list, hl, hs, List.drop_one, List.tail_cons]
        have : r.length = n := by rw [hl] at hsl; simp at hsl; omega
        rw [List.take_of_length_le (by omega)]
      have h := ih (s.extract 1 s.size) (by rw [ba_len, e]; rw [hl] at hsl; simp at hsl; omega) (by omega)
      rw [e] at h
      have hbd := refL_bounds r
      refine Ev.step (f := fun k => tithebarnref18_literal.j0 k s ((b.toNat : Int) == 45)) hf (Ev.step (fun k => by
        simp only [tithebarnref18_literal.j0]
        rw [if_pos (by subst h45; decide), if_pos (by omega)]) (Ev.bind h ?_))
      rw [wrap_id (by omega) (by omega)]
      exact Ev.now _
    · rw [if_neg h45]
      have h := lit_l0 s (by omega) s.size 0 0 (by omega) (by omega) (by omega) (by decide)
      rw [List.drop_zero, hl] at h
      refine Ev.step (f := fun k => tithebarnref18_literal.j0 k s ((b.toNat : Int) == 45)) hf (Ev.step (fun k => ?_) h)
      simp only [tithebarnref18_literal.j0]
      rw [if_neg (by
        intro hh
        have : (b.toNat : Int) = 45 := by simpa using hh
        exact h45 (UInt8.toNat_inj.1 (by show b.toNat = 45; omega)))]
      rfl
theorem parse18_l0 (s : ByteArray) (hs : s.size ≤ 100000) : ∀ (d i fr : Nat) (rows : List (List Int)) (row : List Int), i + d = s.size → fr ≤ i → rows.length ≤ i → row.length ≤ i →
    Ev (fun k => tithebarnref18_Parse.l0 k s rows row (fr : Int) (i : Int)) (outF (scanB (s.data.toList.drop i) rows row ((s.data.toList.drop fr).take (i - fr)))) := by
  have hsl := ba_len s
  intro d
  induction d with
  | zero =>
    intro i fr rows row hi hf hr1 hr2
    rw [List.drop_eq_nil_of_le (by omega)]
    refine Ev.step (f := fun _ => some (outF (scanB [] rows row ((s.data.toList.drop fr).take (i - fr))))) (fun k => ?_) (Ev.now _)
    simp only [tithebarnref18_Parse.l0]
    rw [if_neg (by omega)]
    have hcl : ((s.data.toList.drop fr).take (i - fr)).length = i - fr := by rw [List.length_take, List.length_drop]; omega
    generalize (s.data.toList.drop fr).take (i - fr) = cur at hcl
    unfold scanB
    by_cases h1 : fr < s.size
    · rw [if_pos (by omega), if_neg (fun h => by rw [h.1] at hcl; simp at hcl; omega)]
      rfl
    · by_cases h2 : row.length > 0
      · rw [if_neg (by omega), if_pos (by omega), if_neg (fun h => by rw [h.2] at h2; simp at h2)]
        rfl
      · rw [if_neg (by omega), if_neg (by omega), if_pos ⟨List.length_eq_zero_iff.1 (by omega), List.length_eq_zero_iff.1 (by omega)⟩]
        rfl
  | succ d ih =>
    intro i fr rows row hi hf hr1 hr2
    have hil : i < s.data.toList.length := by omega
    have hcur : (s.extract ((fr : Nat) : Int).toNat ((i : Nat) : Int).toNat).data.toList = (s.data.toList.drop fr).take (i - fr) := by
      rw [Int.toNat_natCast, Int.toNat_natCast, ext_list]
    have hsnoc : (s.data.toList.drop fr).take (i + 1 - fr) = (s.data.toList.drop fr).take (i - fr) ++ [s.data.toList[i]] := by
      rw [show i + 1 - fr = (i - fr) + 1 by omega, List.take_succ_eq_append_getElem (by rw [List.length_drop]; omega), List.getElem_drop]
      simp only [show fr + (i - fr) = i by omega]
    rw [List.drop_eq_getElem_cons hil]
    have hb := bt_nat s i hil
    generalize s.data.toList[i] = b at *
    generalize hcd : (s.data.toList.drop fr).take (i - fr) = cur at *
    have hnew : ∀ (rows : List (List Int)) (row : List Int), rows.length ≤ i + 1 → row.length ≤ i + 1 → Ev (fun k => tithebarnref18_Parse.l0 k s rows row ((i + 1 : Nat) : Int) ((i + 1 : Nat) : Int)) (outF (scanB (s.data.toList.drop (i + 1)) rows row [])) := fun rows row h1 h2 => by
      have := ih (i + 1) (i + 1) rows row (by omega) (Nat.le_refl _) h1 h2
      rwa [Nat.sub_self, List.take_zero] at this
    have hw : wrap64 ((i : Int) + 1) = ((i + 1 : Nat) : Int) := by rw [wrap_id (by omega) (by omega)]; omega
    unfold scanB
    by_cases h10 : b = 10
    · have hbv : bt s (i : Int) = 10 := by rw [hb, h10]; rfl
      rw [if_pos h10]
      by_cases hc : cur = [48]
      · rw [if_pos hc]
        refine Ev.step (f := fun k => tithebarnref18_Parse.j1 k s (rows ++ [row]) [] ((i + 1 : Nat) : Int) (i : Int)) (fun k => ?_) (Ev.step (fun k => ?_) (hnew (rows ++ [row]) [] (by simp; omega) (by simp)))
        · simp only [tithebarnref18_Parse.l0]
          rw [if_pos (by omega), if_pos (by omega), if_pos hbv, if_pos (by omega), if_pos (by omega), if_pos (by omega), if_pos (by rw [Lib.toList_data, hcur]; exact hc), if_pos (by omega), hw]
        · simp only [tithebarnref18_Parse.j1]
          rw [if_pos (by omega), if_pos (by omega), hbv, if_neg (by decide), hw]
      · rw [if_neg hc]
        refine Ev.step (f := fun _ => some (outF none)) (fun k => ?_) (Ev.now _)
        simp only [tithebarnref18_Parse.l0]
        rw [if_pos (by omega), if_pos (by omega), if_pos hbv, if_pos (by omega), if_pos (by omega), if_pos (by omega), if_neg (by rw [Lib.toList_data, hcur]; exact hc)]
        rfl
    · have hbv : ¬ bt s (i : Int) = 10 := by
        rw [hb]
        intro h
        exact h10 (UInt8.toNat_inj.1 (by show b.toNat = 10; omega))
      rw [if_neg h10]
      refine Ev.step (f := fun k => tithebarnref18_Parse.j1 k s rows row (fr : Int) (i : Int)) (fun k => by
        simp only [tithebarnref18_Parse.l0]
        rw [if_pos (by omega), if_pos (by omega), if_neg hbv]) ?_
      by_cases h32 : b = 32
      · have hbv2 : bt s (i : Int) = 32 := by rw [hb, h32]; rfl
        rw [if_pos h32]
        have hex := hcur
        have hlit := lit_ev _ (s.extract ((fr : Nat) : Int).toNat ((i : Nat) : Int).toNat) rfl (by rw [ba_len, hcur, ← hcd, List.length_take]; omega)
        rw [hcur] at hlit
        have hbd := refL_bounds cur
        refine Ev.step (fun k => by
          simp only [tithebarnref18_Parse.j1]
          rw [if_pos (by omega), if_pos (by omega), if_pos hbv2, if_pos (by omega), if_pos (by omega), if_pos (by omega)]) (Ev.bind hlit ?_)
        rw [wordX_ref]
        by_cases h0 : refL cur = 0
        · rw [if_pos h0]
          refine Ev.congr (fun k => ?_) (Ev.now _)
          rw [if_pos h0]
          rfl
        · rw [if_neg h0]
          refine EvR.neg h0 (Ev.bind (digits_ev _ hbd.1 hbd.2) ?_)
          by_cases he : Lib.itoa (refL cur) = cur
          · rw [if_pos he]
            refine EvR.pos (by rw [Lib.toList_data, Lib.toList_data, hcur]; exact he) (EvR.pos (by omega) ?_)
            rw [hw]
            exact hnew rows (row ++ [refL cur]) (by omega) (by simp; omega)
          · rw [if_neg he]
            exact EvR.neg (by rw [Lib.toList_data, Lib.toList_data, hcur]; exact he) (Ev.now _)
      · have hbv2 : ¬ bt s (i : Int) = 32 := by
          rw [hb]
          intro h
          exact h32 (UInt8.toNat_inj.1 (by show b.toNat = 32; omega))
        rw [if_neg h32]
        have := ih (i + 1) fr rows row (by omega) (by omega) (by omega) (by omega)
        rw [hsnoc] at this
        refine Ev.step (fun k => ?_) this
        simp only [tithebarnref18_Parse.j1]
        rw [if_pos (by omega), if_pos (by omega), if_neg hbv2, hw]
theorem parse18_ev (s : ByteArray) (hs : s.size ≤ 100000) : Ev (fun k => tithebarnref18_Parse.f k s) (outF (rowsF (linesB s) [])) := by
  have := parse18_l0 s hs s.size 0 0 [] [] (by omega) (by omega) (by simp) (by simp)
  rw [Nat.sub_self, List.take_zero, List.drop_zero, scanB_eq] at this
  exact this
theorem rowT_big (c : List Int) : c.length + 2 ≤ (rowT c).length := by
  have h : ∀ c : List Int, c.length ≤ (c.flatMap litT).length := by
    intro c
    induction c with
    | nil => simp
    | cons x c ih =>
      have e : (litT x).length = (Lib.itoa x).length + 1 := by simp only [litT, List.length_append, List.length_singleton]
      rw [List.flatMap_cons, List.length_append, List.length_cons, e]
      omega
  unfold rowT
  have := h c
  rw [List.length_append]
  show c.length + 2 ≤ _ + 2
  omega
theorem rowsT_big : ∀ l : List (List Int), l.length + total l ≤ (rowsT l).length
  | [] => by simp [total]
  | c :: l => by
    have h1 := rowT_big c
    have h2 := rowsT_big l
    show _ ≤ (rowT c ++ rowsT l).length
    rw [List.length_append]
    simp [total] at h2 ⊢
    omega
theorem text_few (s : ByteArray) (hs : s.size ≤ 100000) : (outF (rowsF (linesB s) [])).1.length ≤ 100000 ∧ total (outF (rowsF (linesB s) [])).1 ≤ 100000 := by
  cases h : rowsF (linesB s) [] with
  | none => exact ⟨by simp [outF], by simp [outF, total]⟩
  | some r =>
    obtain ⟨h1, h2⟩ := parse_some s r h
    have := rowsT_big r
    rw [h2, ← ba_len] at this
    show r.length ≤ _ ∧ total r ≤ _
    omega
theorem RefuteText_pure : ∀ (l0 : List (List Int)) (a1 : ByteArray), (l0.length ≤ maxLen ∧ ∀ y0 ∈ l0, (y0.length ≤ maxLen ∧ ∀ y1 ∈ y0, (Lit.int .i64 y1).wf = true)) → a1.size ≤ maxLen → ∃ k, PCnf.tithebarnlaw18_RefuteText.f k l0 a1 = some true := by
  intro row s hrow hs
  have hw : tithebarnlaw18_works.f = some true := rfl
  have key : Ev (fun k => PCnf.tithebarnlaw18_RefuteText.f k row s) true := by
    have hno : Ev (fun k => PCnf.tithebarnlaw18_RefuteText.j0 k row s true) true := by
      refine Ev.step (f := fun _ => some true) (fun k => ?_) (Ev.now _)
      simp only [PCnf.tithebarnlaw18_RefuteText.j0, if_true, hw, Option.bind_some]
    obtain ⟨b1, e1, f1⟩ := few_ev 0 row 300 (by omega) (by omega)
    refine Ev.congr (fun k => rfl) (Ev.bind (f := fun k t266 => if t266 = true then (PCnf.tithebarnlaw18_RefuteText.j0 k row s (decide ((s.size : Int) > 1000))) else (PCnf.tithebarnlaw18_RefuteText.j0 k row s true)) e1 ?_)
    cases hb1 : b1 with
    | false => exact EvR.neg (by decide) hno
    | true =>
      refine EvR.pos rfl ?_
      by_cases hsz : (s.size : Int) > 1000
      · rw [decide_eq_true hsz]; exact hno
      · rw [decide_eq_false hsz]
        have g1 := f1 hb1
        have hX : (printX row).1.size ≤ 100000 := by
          unfold printX
          rw [ba_len]
          show (if allR row = true then rowsT row else []).length ≤ _
          split
          · rename_i ha
            have := rowsT_len row ha
            have e : (row.map List.length).sum = total row := rfl
            omega
          · simp
        have hpr : refute_Print.f row = some (printX row) := by unfold refute_Print.f; rw [if_pos ⟨by omega, by omega⟩]; rfl
        have hps : refute_Parse.f s = some (outF (rowsF (linesB s) [])) := by unfold refute_Parse.f; rw [if_pos (by omega)]
        have htf := text_few s (by omega)
        have hsame := sameRows_ev (outF (rowsF (linesB s) [])).1 (by omega) (fun c hc => by have := total_mem hc; omega)
        have hj2 : Ev (fun k => PCnf.tithebarnlaw18_RefuteText.j2 k s (outF (rowsF (linesB s) [])).1 (outF (rowsF (linesB s) [])).2) true := by
          refine Ev.step (f := fun _ => some true) (fun k => ?_) (Ev.now _)
          simp only [PCnf.tithebarnlaw18_RefuteText.j2]
          cases h : rowsF (linesB s) [] with
          | none => rw [if_neg (by decide), hw]; rfl
          | some r =>
            obtain ⟨h1, h2⟩ := parse_some s r h
            rw [h] at htf
            have hq : refute_Print.f r = some (s, 0) := by
              unfold refute_Print.f
              rw [if_pos ⟨by have := htf.2; simp only [outF] at this; omega, by have := htf.1; simp only [outF] at this; omega⟩, h1]
              simp only [if_true]
              congr 2
              apply ByteArray.ext
              rw [h2]
            simp only [outF]
            rw [if_pos trivial, hq, hw]
            simp
        have hj1 : Ev (fun k => PCnf.tithebarnlaw18_RefuteText.j1 k row s (printX row).1 (printX row).2 (outF (rowsF (linesB s) [])).1 (outF (rowsF (linesB s) [])).2 false) true := by
          cases ha : allR row with
          | false =>
            refine Ev.step (fun k => ?_) hj2
            simp only [PCnf.tithebarnlaw18_RefuteText.j1]
            rw [if_neg (by decide), if_neg (by unfold printX; rw [ha]; simp)]
          | true =>
            have e0 : printX row = (⟨(rowsT row).toArray⟩, 0) := by unfold printX; rw [ha]; rfl
            have hq : refute_Parse.f ⟨(rowsT row).toArray⟩ = some (row, 0) := by
              unfold refute_Parse.f
              rw [e0] at hX
              rw [if_pos (by simp only [] at hX; omega), parse_rowsT row ha]
              rfl
            have hsm := sameRows_ev row (by omega) (fun c hc => by have := total_mem hc; omega)
            refine Ev.step (fun k => by
              simp only [PCnf.tithebarnlaw18_RefuteText.j1]
              rw [if_neg (by decide), e0, if_pos rfl, hq, Option.bind_some, if_pos rfl]) (Ev.bind hsm (EvR.pos rfl hj2))
        refine Ev.step (fun k => by
          simp only [PCnf.tithebarnlaw18_RefuteText.j0]
          rw [if_neg (by decide), hpr, Option.bind_some]) (Ev.bind (print18_ev row (by omega) (by omega)) ?_)
        rw [hps]
        simp only [Option.bind_some, if_true]
        refine Ev.bind (parse18_ev s (by omega)) ?_
        simp only [if_true]
        exact Ev.bind hsame hj1
  obtain ⟨K, hK⟩ := key
  exact ⟨K, hK K (Nat.le_refl _)⟩
end Go.Proofs.YtghecdmcghppnaaDoor
