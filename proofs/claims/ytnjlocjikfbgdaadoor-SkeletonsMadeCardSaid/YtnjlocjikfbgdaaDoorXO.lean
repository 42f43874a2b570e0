/-
The element of plain data has no fault of its own.
-/
import Derived.Test.YtnjlocjikfbgdaaDoorXN
set_option linter.all false
namespace Go.Vid
open Go.Proofs
set_option maxRecDepth 100000
/-! the element of plain data has the right structure -/
mutual
/-- No fault of its own, on so many levels. -/
def El.Fine : El → Nat → Prop
  | .mk c k n bs subs, h => tagErr c k n = 0 ∧ (k = true → bs = []) ∧ (k = false → subs = []) ∧ 1 ≤ h ∧ El.FineL subs (h - 1)
def El.FineL : List El → Nat → Prop
  | [], _ => True
  | e :: es, h => e.Fine h ∧ El.FineL es h
end
mutual
def El.cnt : El → Nat
  | .mk _ _ _ _ subs => 1 + El.cntL subs
def El.cntL : List El → Nat
  | [] => 0
  | e :: es => e.cnt + El.cntL es
end

theorem fine_mk {c : Int} {k : Bool} {n : Int} {bs : List Int} {subs : List El} {h : Nat} (h1 : tagErr c k n = 0) (h2 : k = true → bs = []) (h3 : k = false → subs = []) (h4 : 1 ≤ h) (h5 : El.FineL subs (h - 1)) : (El.mk c k n bs subs).Fine h := by
  simp only [El.Fine]; exact ⟨h1, h2, h3, h4, h5⟩
theorem fineL_nil {h : Nat} : El.FineL [] h := by simp only [El.FineL]
theorem fineL_cons {e : El} {es : List El} {h : Nat} (h1 : e.Fine h) (h2 : El.FineL es h) : El.FineL (e :: es) h := by
  simp only [El.FineL]; exact ⟨h1, h2⟩

theorem fineL_append : ∀ {a b : List El} {h : Nat}, El.FineL a h → El.FineL b h → El.FineL (a ++ b) h
  | [], _, _, _, hb => by simpa using hb
  | e :: a, b, h, ha, hb => by
    simp only [El.FineL, List.cons_append] at ha ⊢
    exact ⟨ha.1, fineL_append ha.2 hb⟩
theorem cntL_append : ∀ {a b : List El}, El.cntL (a ++ b) = El.cntL a + El.cntL b
  | [], _ => by simp [El.cntL]
  | e :: a, b => by simp only [El.cntL, List.cons_append, cntL_append (a := a)]; omega

mutual
theorem fine_mono : ∀ (e : El) {h h' : Nat}, h ≤ h' → e.Fine h → e.Fine h'
  | .mk c k n bs subs, h, h', hh, hf => by
    simp only [El.Fine] at hf ⊢
    exact ⟨hf.1, hf.2.1, hf.2.2.1, by omega, fineL_mono subs (by omega) hf.2.2.2.2⟩
theorem fineL_mono : ∀ (l : List El) {h h' : Nat}, h ≤ h' → El.FineL l h → El.FineL l h'
  | [], _, _, _, _ => by simp only [El.FineL]
  | e :: es, h, h', hh, hf => by
    simp only [El.FineL] at hf ⊢
    exact ⟨fine_mono e hh hf.1, fineL_mono es hh hf.2⟩
end

mutual
theorem chk_fine : ∀ (e : El) {h : Nat} {d cnt lv : Int}, e.Fine h → d + h ≤ 17 → 0 ≤ cnt → cnt + e.cnt ≤ 8192 → (chk e d cnt lv).1 = 0 ∧ (chk e d cnt lv).2.1 = cnt + e.cnt
  | .mk c k n bs subs, h, d, cnt, lv, hf, hd, h0, hc => by
    simp only [El.Fine] at hf
    simp only [El.cnt] at hc ⊢
    obtain ⟨h1, h2, h3, h4, h5⟩ := hf
    have hv : visE c k n bs.length subs.length d cnt = 0 := by
      unfold visE
      rw [if_neg (by rw [h1]; simp), if_neg, if_neg (by omega), if_neg (by omega)]
      rintro (⟨a, b⟩ | ⟨a, b⟩)
      · rw [h2 a] at b; simp at b
      · rw [h3 a] at b; simp at b
    simp only [chk]
    rw [if_neg (by rw [hv]; simp)]
    have := chks_fine subs (h := h - 1) (d := d + 1) (cnt := cnt + 1) (lv := max lv d) h5 (by omega) (by omega) (by omega)
    exact ⟨this.1, by rw [this.2]; omega⟩
theorem chks_fine : ∀ (l : List El) {h : Nat} {d cnt lv : Int}, El.FineL l h → d + h ≤ 17 → 0 ≤ cnt → cnt + El.cntL l ≤ 8192 → (chks l d cnt lv).1 = 0 ∧ (chks l d cnt lv).2.1 = cnt + El.cntL l
  | [], _, _, _, _, _, _, _, _ => by simp [chks, El.cntL]
  | e :: es, h, d, cnt, lv, hf, hd, h0, hc => by
    simp only [El.FineL] at hf
    simp only [El.cntL] at hc ⊢
    obtain ⟨q1, q2⟩ := chk_fine e (lv := lv) hf.1 hd h0 (by omega)
    simp only [chks]
    rw [if_neg (by rw [q1]; simp), q2]
    have := chks_fine es (h := h) (d := d) (cnt := cnt + e.cnt) (lv := (chk e d cnt lv).2.2) hf.2 hd (by omega) (by omega)
    exact ⟨this.1, by rw [this.2]; omega⟩
end

theorem tagM_ok (c : Int) : tagErr (tagM c).1 (tagM c).2.1 (tagM c).2.2 = 0 := by
  unfold tagM
  repeat' split
  all_goals simp only [tagErr]
  all_goals (repeat' split)
  all_goals first | rfl | omega | simp_all

theorem bl_fine {code : List Int} : ∀ (k a : Nat) (lv : Int), 41 - a ≤ k → 0 ≤ lv → lv ≤ 5 → El.FineL (bl code a lv).1 (6 - lv).toNat ∧ El.cntL (bl code a lv).1 + a ≤ (bl code a lv).2 := by
  intro k
  induction k with
  | zero =>
    intro a lv hk h0 h5
    rw [bl_eq]
    split
    · simp [El.FineL, El.cntL]
    · rw [if_pos (by omega)]; simp [El.FineL, El.cntL]
  | succ k ih =>
    intro a lv hk h0 h5
    rw [bl_eq]
    split
    · simp [El.FineL, El.cntL]
    rename_i c _
    split
    · simp [El.FineL, El.cntL]
    split
    · simp [El.FineL, El.cntL]
    split
    · rename_i hcons
      split
      · obtain ⟨q1, q2⟩ := ih (a + 1) lv (by omega) h0 h5
        exact ⟨q1, by omega⟩
      · obtain ⟨q1, q2⟩ := ih (a + 1) (lv + 1) (by omega) (by omega) (by omega)
        have hle := (bld_le 41 code (a + 1) (lv + 1)).1
        have hle' : a + 1 ≤ (bl code (a + 1) (lv + 1)).2 := hle
        obtain ⟨q3, q4⟩ := ih (bl code (a + 1) (lv + 1)).2 lv (by omega) h0 h5
        have ht := tagM_ok c
        rw [hcons] at ht
        refine ⟨?_, ?_⟩
        · refine fineL_cons (fine_mk ht (fun _ => rfl) (fun h => by cases h) (by omega) ?_) q3
          rw [show (6 - lv).toNat - 1 = (6 - (lv + 1)).toNat by omega]
          exact q1
        · simp only [El.cntL, El.cnt]
          omega
    · rename_i hcons
      obtain ⟨q1, q2⟩ := ih (a + 1) lv (by omega) h0 h5
      have ht := tagM_ok c
      have hk : (tagM c).2.1 = false := by simpa using hcons
      rw [hk] at ht
      refine ⟨?_, ?_⟩
      · exact fineL_cons (fine_mk ht (fun h => by cases h) (fun _ => rfl) (by omega) fineL_nil) q1
      · simp only [El.cntL, El.cnt]
        omega

theorem bl0_fine (code : List Int) : El.FineL (bl code 0 2).1 4 ∧ El.cntL (bl code 0 2).1 ≤ 40 := by
  obtain ⟨q1, q2⟩ := bl_fine (code := code) 41 0 2 (by omega) (by omega) (by omega)
  have := (bld_le 41 code 0 2).2.2
  have h2 : (bl code 0 2).2 ≤ max 0 40 := this
  exact ⟨q1, by omega⟩

theorem tagI_ok (p : Int) : tagErr (tagI p).1 (tagI p).2.1 (tagI p).2.2 = 0 := by
  unfold tagI
  repeat' split
  all_goals rfl

theorem partM_c (w : Int) (codes : List (List Int)) (p : Nat) : (partM w codes p).c = (tagI p).1 ∧ (partM w codes p).k = (tagI p).2.1 ∧ (partM w codes p).n = (tagI p).2.2 := by
  unfold partM
  split
  · rename_i h; subst h; exact ⟨rfl, rfl, rfl⟩
  split
  · rename_i h; subst h; exact ⟨rfl, rfl, rfl⟩
  split <;> exact ⟨rfl, rfl, rfl⟩

theorem tagI_prim {p : Nat} : (p = 2 ∨ p = 8 ∨ p = 9 ∨ p = 12) → (tagI p).2.1 = false := by
  rintro (rfl | rfl | rfl | rfl) <;> rfl
theorem tagI_cons {p : Nat} (h : ¬ (p = 2 ∨ p = 8 ∨ p = 9 ∨ p = 12)) : (tagI p).2.1 = true := by
  unfold tagI
  split
  · rfl
  split
  · exfalso; omega
  split
  · exfalso; omega
  split
  · exfalso; omega
  split
  · rfl
  split
  · exfalso; omega
  rfl

theorem partM_fine (w : Int) (codes : List (List Int)) (p : Nat) : (partM w codes p).Fine 6 ∧ (partM w codes p).cnt ≤ 42 := by
  unfold partM
  split
  · exact ⟨fine_mk rfl (fun _ => rfl) (fun h => by cases h) (by omega) (fineL_cons (fine_mk rfl (fun h => by cases h) (fun _ => rfl) (by omega) fineL_nil) fineL_nil), by simp [El.cnt, El.cntL]⟩
  split
  · obtain ⟨q1, q2⟩ := bl0_fine (codes.getD 10 [])
    exact ⟨fine_mk rfl (fun _ => rfl) (fun h => by cases h) (by omega) (fineL_cons (fine_mk rfl (fun _ => rfl) (fun h => by cases h) (by omega) q1) fineL_nil), by simp only [El.cnt, El.cntL, codeEl]; omega⟩
  split
  · rename_i h
    exact ⟨fine_mk (tagI_ok p) (fun hh => by rw [tagI_prim h] at hh; cases hh) (fun _ => rfl) (by omega) fineL_nil, by simp [El.cnt, El.cntL]⟩
  · rename_i h
    obtain ⟨q1, q2⟩ := bl0_fine (codes.getD p [])
    exact ⟨fine_mk (tagI_ok p) (fun _ => rfl) (fun hh => by rw [tagI_cons h] at hh; cases hh) (by omega) (fineL_mono _ (by omega) q1), by simp only [El.cnt]; omega⟩

theorem tbsM_fine (w : Int) (codes : List (List Int)) : ∀ p, El.FineL (tbsM w codes p) 6 ∧ El.cntL (tbsM w codes p) ≤ 42 * p
  | 0 => by simp [tbsM, El.FineL, El.cntL]
  | p + 1 => by
    obtain ⟨q1, q2⟩ := tbsM_fine w codes p
    obtain ⟨q3, q4⟩ := partM_fine w codes (p + 1)
    show El.FineL (tbsM w codes p ++ _) 6 ∧ El.cntL (tbsM w codes p ++ _) ≤ _
    split
    · refine ⟨fineL_append q1 (fineL_cons q3 fineL_nil), ?_⟩
      rw [cntL_append]
      simp only [El.cntL]
      omega
    · simp only [List.append_nil]
      exact ⟨q1, by omega⟩

theorem kOf_fine (w : Int) (codes : List (List Int)) : (kOf w codes).Fine 8 ∧ (kOf w codes).cnt ≤ 600 := by
  obtain ⟨q1, q2⟩ := tbsM_fine w codes 10
  obtain ⟨q3, q4⟩ := partM_fine w codes 11
  obtain ⟨q5, q6⟩ := partM_fine w codes 12
  unfold kOf
  refine ⟨?_, by simp only [El.cnt, El.cntL]; omega⟩
  exact fine_mk rfl (fun _ => rfl) (fun h => by cases h) (by omega) (fineL_cons (fine_mk rfl (fun _ => rfl) (fun h => by cases h) (by omega) q1) (fineL_cons (fine_mono _ (by omega) q3) (fineL_cons (fine_mono _ (by omega) q5) fineL_nil)))

theorem kOf_check (w : Int) (codes : List (List Int)) : checkE (kOf w codes) = 0 := by
  obtain ⟨q1, q2⟩ := kOf_fine w codes
  exact (chk_fine _ q1 (by omega) (by omega) (by omega)).1

end Go.Vid
