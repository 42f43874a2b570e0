/-
The skeleton of the element of plain data.
-/
import Derived.Test.YtnjlocjikfbgdaaDoorXO
import Derived.Test.YtnjlocjikfbgdaaDoorWJ
set_option linter.all false
namespace Go.Vid
open Go.Proofs
set_option maxRecDepth 100000
/-! the skeleton of the element of plain data -/
def tbsL (b1 b8 b9 b10 : Bool) (P : Nat → El) : List El :=
  (if b1 = true then [P 1] else []) ++ [P 2, P 3, P 4, P 5, P 6, P 7] ++ (if b8 = true then [P 8] else []) ++ (if b9 = true then [P 9] else []) ++ (if b10 = true then [P 10] else [])

/-- Where the parts are. -/
def ksB : Bool → Bool → Bool → Bool → List Int
  | false, false, false, false => [-1, 0, 1, 2, 3, 4, 5, -1, -1, -1]
  | false, false, false, true => [-1, 0, 1, 2, 3, 4, 5, -1, -1, 6]
  | false, false, true, false => [-1, 0, 1, 2, 3, 4, 5, -1, 6, -1]
  | false, false, true, true => [-1, 0, 1, 2, 3, 4, 5, -1, 6, 7]
  | false, true, false, false => [-1, 0, 1, 2, 3, 4, 5, 6, -1, -1]
  | false, true, false, true => [-1, 0, 1, 2, 3, 4, 5, 6, -1, 7]
  | false, true, true, false => [-1, 0, 1, 2, 3, 4, 5, 6, 7, -1]
  | false, true, true, true => [-1, 0, 1, 2, 3, 4, 5, 6, 7, 8]
  | true, false, false, false => [0, 1, 2, 3, 4, 5, 6, -1, -1, -1]
  | true, false, false, true => [0, 1, 2, 3, 4, 5, 6, -1, -1, 7]
  | true, false, true, false => [0, 1, 2, 3, 4, 5, 6, -1, 7, -1]
  | true, false, true, true => [0, 1, 2, 3, 4, 5, 6, -1, 7, 8]
  | true, true, false, false => [0, 1, 2, 3, 4, 5, 6, 7, -1, -1]
  | true, true, false, true => [0, 1, 2, 3, 4, 5, 6, 7, -1, 8]
  | true, true, true, false => [0, 1, 2, 3, 4, 5, 6, 7, 8, -1]
  | true, true, true, true => [0, 1, 2, 3, 4, 5, 6, 7, 8, 9]

abbrev w1 (w : Int) : Bool := decide (0 < w % 4)
abbrev w8 (w : Int) : Bool := decide (0 < w % 4) && (w / 4 % 2 == 1)
abbrev w9 (w : Int) : Bool := decide (0 < w % 4) && (w / 8 % 2 == 1)
abbrev w10 (w : Int) : Bool := decide (1 < w % 4) && (w / 16 % 2 == 1)
def ksK (w : Int) : List Int := ksB (w1 w) (w8 w) (w9 w) (w10 w)
def verK (w : Int) : Int := if 1 < w % 4 then 3 else if 0 < w % 4 then 2 else 1

theorem tbsM_L (w : Int) (codes : List (List Int)) : tbsM w codes 10 = tbsL (w1 w) (w8 w) (w9 w) (w10 w) (partM w codes) := by
  have h : ∀ (b1 b8 b9 b10 : Bool) (P : Nat → El), (((((((((([] ++ (if b1 = true then [P 1] else [])) ++ (if true = true then [P 2] else [])) ++ (if true = true then [P 3] else [])) ++ (if true = true then [P 4] else [])) ++ (if true = true then [P 5] else [])) ++ (if true = true then [P 6] else [])) ++ (if true = true then [P 7] else [])) ++ (if b8 = true then [P 8] else [])) ++ (if b9 = true then [P 9] else [])) ++ (if b10 = true then [P 10] else [])) = tbsL b1 b8 b9 b10 P := by
    intro b1 b8 b9 b10 P
    cases b1 <;> cases b8 <;> cases b9 <;> cases b10 <;> rfl
  exact h (w1 w) (w8 w) (w9 w) (w10 w) (partM w codes)

theorem fits_of {f : Fld} {e : El} (h : f.any = false) (hc : e.c = f.c) (hk : e.k = f.k) (hn : e.n = f.n) : fits f e = true := by
  unfold fits; rw [h, hc, hk, hn]; simp
theorem fits_no {f : Fld} {e : El} (h : f.any = false) (hn : ¬ (e.c = f.c ∧ e.k = f.k ∧ e.n = f.n)) : fits f e = false := by
  unfold fits; rw [h]
  cases hx : (false || (f.c == e.c && (f.k == e.k && f.n == e.n))) with
  | false => rfl
  | true =>
    simp only [Bool.false_or, Bool.and_eq_true, beq_iff_eq] at hx
    exact absurd ⟨hx.1.symm, hx.2.1.symm, hx.2.2.symm⟩ hn

theorem seqB (P : Nat → El) (hP : ∀ p : Nat, (P p).c = (tagI p).1 ∧ (P p).k = (tagI p).2.1 ∧ (P p).n = (tagI p).2.2) (b1 b8 b9 b10 : Bool) :
    seqEnd (tbsL b1 b8 b9 b10 P).length (seqGo (tbsL b1 b8 b9 b10 P) flds10 0 []) = (0, [], ksB b1 b8 b9 b10) := by
  have c1 : (P 1).c = 2 ∧ (P 1).k = true ∧ (P 1).n = 0 := hP 1
  have c2 : (P 2).c = 0 ∧ (P 2).k = false ∧ (P 2).n = 2 := hP 2
  have c3 : (P 3).c = 0 ∧ (P 3).k = true ∧ (P 3).n = 16 := hP 3
  have c4 : (P 4).c = 0 ∧ (P 4).k = true ∧ (P 4).n = 16 := hP 4
  have c5 : (P 5).c = 0 ∧ (P 5).k = true ∧ (P 5).n = 16 := hP 5
  have c6 : (P 6).c = 0 ∧ (P 6).k = true ∧ (P 6).n = 16 := hP 6
  have c7 : (P 7).c = 0 ∧ (P 7).k = true ∧ (P 7).n = 16 := hP 7
  have c8 : (P 8).c = 2 ∧ (P 8).k = false ∧ (P 8).n = 1 := hP 8
  have c9 : (P 9).c = 2 ∧ (P 9).k = false ∧ (P 9).n = 2 := hP 9
  have c10 : (P 10).c = 2 ∧ (P 10).k = true ∧ (P 10).n = 3 := hP 10
  cases b1 <;> cases b8 <;> cases b9 <;> cases b10 <;>
    simp [tbsL, flds10, seqGo, fitsAt, fits, seqEnd, ksB, c1, c2, c3, c4, c5, c6, c7, c8, c9, c10]

theorem seqM3 (w : Int) (codes : List (List Int)) : seqM (kOf w codes) 0 true 16 flds3 = (0, [], [0, 1, 2]) := by
  have c11 : (partM w codes 11).c = 0 ∧ (partM w codes 11).k = true ∧ (partM w codes 11).n = 16 := partM_c w codes 11
  have c12 : (partM w codes 12).c = 0 ∧ (partM w codes 12).k = false ∧ (partM w codes 12).n = 3 := partM_c w codes 12
  simp [seqM, seqF, kOf, El.c, El.k, El.n, El.subs, flds3, seqGo, fitsAt, fits, seqEnd] at c11 c12 ⊢
  simp [c11, c12]

theorem seqM10 (w : Int) (codes : List (List Int)) : seqM (.mk 0 true 16 [] (tbsM w codes 10)) 0 true 16 flds10 = (0, [], ksK w) := by
  show seqF 0 true 16 (tbsM w codes 10) 0 true 16 flds10 = _
  unfold seqF
  rw [if_neg (by decide), if_pos ⟨rfl, rfl, rfl⟩, tbsM_L]
  exact seqB _ (fun p => partM_c w codes p) _ _ _ _

theorem verP1 (w : Int) (codes : List (List Int)) (h : 0 < w % 4) : verM (partM w codes 1) = (verK w, [], 0) := by
  unfold partM verK
  rw [if_pos rfl]
  split
  · rfl
  · rfl

theorem extP10 (w : Int) (codes : List (List Int)) : extM (partM w codes 10) = ([], 0) := by
  unfold partM
  rw [if_neg (by omega), if_pos rfl]
  rfl

/-- THE SKELETON. -/
theorem ofK (w : Int) (codes : List (List Int)) : ofM (kOf w codes) = .good (verK w) (ksK w) := by
  unfold ofM
  rw [if_neg (by rw [kOf_check]; simp), if_neg (by rw [seqM3]; simp)]
  show of1 (.mk 0 true 16 [] (tbsM w codes 10)) = _
  unfold of1
  rw [if_neg (by rw [seqM10]; simp), seqM10]
  show of2 (tbsM w codes 10) (ksK w) = _
  have h4 : ∀ v, (w10 w = true → (tbsM w codes 10)[((ksK w).getD 9 (-1)).toNat]? = some (partM w codes 10)) → of4 (tbsM w codes 10) v (ksK w) = .good v (ksK w) := by
    intro v hx
    unfold of4
    split
    · rfl
    · rename_i hk
      have h10 : w10 w = true := by
        cases hb : w10 w with
        | true => rfl
        | false =>
          exfalso; apply hk
          unfold ksK
          rw [hb]
          cases w1 w <;> cases w8 w <;> cases w9 w <;> decide
      rw [hx h10]
      simp only
      rw [if_neg (by rw [extP10]; simp)]
  have hx : w10 w = true → (tbsM w codes 10)[((ksK w).getD 9 (-1)).toNat]? = some (partM w codes 10) := by
    intro h10
    rw [tbsM_L]
    unfold ksK
    rw [h10]
    cases w1 w <;> cases w8 w <;> cases w9 w <;> rfl
  have hg4 := h4 (verK w) hx
  have h3 : of3 (tbsM w codes 10) (verK w) (ksK w) = .good (verK w) (ksK w) := by
    unfold of3
    rw [if_neg, if_neg, if_neg]
    · exact hg4
    · rintro ⟨hv, hk⟩
      have hw : ¬ 1 < w % 4 := by
        intro hh
        unfold verK at hv
        rw [if_pos hh] at hv
        omega
      have h10 : w10 w = false := by simp [w10]; intro hh; exact absurd hh hw
      unfold ksK at hk
      rw [h10] at hk
      revert hk
      cases w1 w <;> cases w8 w <;> cases w9 w <;> decide
    · rintro ⟨hv, hk⟩
      have hw : ¬ 0 < w % 4 := by
        intro hh
        unfold verK at hv
        split at hv
        · omega
        · omega
      have h9 : w9 w = false := by simp [w9]; intro hh; exact absurd hh hw
      unfold ksK at hk
      rw [h9] at hk
      revert hk
      cases w1 w <;> cases w8 w <;> cases w10 w <;> decide
    · rintro ⟨hv, hk⟩
      have hw : ¬ 0 < w % 4 := by
        intro hh
        unfold verK at hv
        split at hv
        · omega
        · omega
      have h8 : w8 w = false := by simp [w8]; intro hh; exact absurd hh hw
      unfold ksK at hk
      rw [h8] at hk
      revert hk
      cases w1 w <;> cases w9 w <;> cases w10 w <;> decide
  unfold of2
  by_cases h1 : 0 < w % 4
  · have hb : w1 w = true := by simpa [w1] using h1
    have hk0 : ¬ (ksK w).getD 0 (-1) < 0 := by
      unfold ksK; rw [hb]
      cases w8 w <;> cases w9 w <;> cases w10 w <;> decide
    obtain ⟨r, hr⟩ : ∃ r, tbsM w codes 10 = partM w codes 1 :: r := by
      rw [tbsM_L, hb]
      exact ⟨_, rfl⟩
    rw [if_neg hk0]
    rw [hr]
    simp only
    rw [if_neg (by rw [verP1 w codes h1]; simp), verP1 w codes h1, ← hr]
    exact h3
  · have hb : w1 w = false := by simpa [w1] using h1
    have hk0 : (ksK w).getD 0 (-1) < 0 := by
      unfold ksK; rw [hb]
      cases w8 w <;> cases w9 w <;> cases w10 w <;> decide
    rw [if_pos hk0]
    have hv : verK w = 1 := by unfold verK; rw [if_neg (by omega), if_neg h1]
    rw [hv] at h3
    rw [hv]
    exact h3

theorem hasK (w : Int) : hasOf (ksK w) = hasM w := by
  show hasOf (ksB (w1 w) (w8 w) (w9 w) (w10 w)) = [true, w1 w, true, true, true, true, true, true, w8 w, w9 w, w10 w, true, true]
  generalize w1 w = a
  generalize w8 w = b
  generalize w9 w = c
  generalize w10 w = d
  cases a <;> cases b <;> cases c <;> cases d <;> rfl

/-- What Element returns. -/
def elK (w : Int) (codes : List (List Int)) (p : Nat) : El := if p = 0 then .mk 0 true 16 [] (tbsM w codes 10) else partM w codes p

theorem elemB (P : Nat → El) (b1 b8 b9 b10 : Bool) (p : Nat) (hp : p < 13) :
    (if (pathsOf (ksB b1 b8 b9 b10)).getD p [] = [] then none else atM (.mk 0 true 16 [] [.mk 0 true 16 [] (tbsL b1 b8 b9 b10 P), P 11, P 12]) ((pathsOf (ksB b1 b8 b9 b10)).getD p [])) =
      if [true, b1, true, true, true, true, true, true, b8, b9, b10, true, true].getD p false = true then some (if p = 0 then .mk 0 true 16 [] (tbsL b1 b8 b9 b10 P) else P p) else none := by
  match p, hp with
  | 0, _ | 1, _ | 2, _ | 3, _ | 4, _ | 5, _ | 6, _ | 7, _ | 8, _ | 9, _ | 10, _ | 11, _ | 12, _ =>
    cases b1 <;> cases b8 <;> cases b9 <;> cases b10 <;> rfl

theorem elemK (w : Int) (codes : List (List Int)) (p : Nat) (hp : p < 13) : elemM (kOf w codes) p = if (hasM w).getD p false = true then some (elK w codes p) else none := by
  unfold elemM
  rw [ofK]
  simp only
  rw [if_neg (by omega)]
  have := elemB (partM w codes) (w1 w) (w8 w) (w9 w) (w10 w) p hp
  unfold kOf elK
  rw [tbsM_L]
  exact this

end Go.Vid
