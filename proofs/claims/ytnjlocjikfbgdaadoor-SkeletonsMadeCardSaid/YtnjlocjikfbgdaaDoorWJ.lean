/-
law
-/
import Derived.Test.YtnjlocjikfbgdaaDoorWH
set_option linter.all false
namespace Go.Vid
open Go.Proofs
set_option maxRecDepth 100000
set_option linter.unusedVariables false
section
open AExit AOut AV IntKind

end

/-! what the law needs of the definition -/
def hasOf (ks : List Int) : List Bool := true :: (ks.map (fun k => decide (0 ≤ k)) ++ [true, true])

def cnn (l : List Int) : Nat := l.countP (fun k => decide (0 ≤ k))
def Consec (out : List Int) : Prop := ∀ (j : Nat) (h : j < out.length), out[j] = -1 ∨ out[j] = (cnn (out.take j) : Nat)

theorem Consec.snoc {out : List Int} (h : Consec out) {k : Int} (hk : k = -1 ∨ k = (cnn out : Nat)) : Consec (out ++ [k]) := by
  intro j hj
  by_cases hjl : j < out.length
  · rw [List.getElem_append_left hjl, List.take_append_of_le_length (Nat.le_of_lt hjl)]
    exact h j hjl
  · have : j = out.length := by simp at hj; omega
    subst this
    simpa using hk

theorem seqGo_cons {subs : List El} : ∀ (l : List Fld) (nx : Nat) (out : List Int), nx = cnn out → Consec out → Consec (seqGo subs l nx out).2.2.1
  | [], nx, out, _, h => h
  | f :: fs, nx, out, hn, h => by
    simp only [seqGo]
    split
    · refine seqGo_cons fs (nx + 1) _ ?_ (h.snoc (.inr (by rw [hn])))
      rw [hn]; simp [cnn, List.countP_append]
    · split
      · refine seqGo_cons fs nx _ ?_ (h.snoc (.inl rfl))
        rw [hn]; simp [cnn, List.countP_append]
      · split <;> exact h

theorem seqM_cons {e : El} {tc : Int} {tk : Bool} {tn : Int} {l : List Fld} (h : (seqM e tc tk tn l).1 = 0) : Consec (seqM e tc tk tn l).2.2 := by
  revert h
  unfold seqM seqF seqEnd
  have := seqGo_cons (subs := e.subs) l 0 [] rfl (by intro j hj; simp at hj)
  split
  · simp
  · split
    · split
      · split
        · simp
        · intro _; exact this
      · rename_i h3; intro h; exact absurd h h3
    · simp

theorem of4_good {subs : List El} {v v' : Int} {ks ks' : List Int} (h : of4 subs v ks = .good v' ks') : ks' = ks := by
  unfold of4 at h
  split at h
  · cases h; rfl
  · split at h
    · cases h; rfl
    · split at h
      · cases h
      · cases h; rfl

theorem of3_good {subs : List El} {v v' : Int} {ks ks' : List Int} (h : of3 subs v ks = .good v' ks') : ks' = ks := by
  unfold of3 at h
  split at h
  · cases h
  · split at h
    · cases h
    · split at h
      · cases h
      · exact of4_good h

theorem of2_good {subs : List El} {v' : Int} {ks ks' : List Int} (h : of2 subs ks = .good v' ks') : ks' = ks := by
  unfold of2 at h
  split at h
  · exact of3_good h
  · split at h
    · exact of3_good h
    · split at h
      · cases h
      · exact of3_good h

theorem ofM_good {e : El} {v : Int} {ks : List Int} (h : ofM e = .good v ks) : ∃ tbs s1 s2, e.subs = [tbs, s1, s2] ∧ ks.length = 10 ∧ (∀ k ∈ ks, k = -1 ∨ 0 ≤ k ∧ k < tbs.subs.length) ∧ Consec ks := by
  unfold ofM at h
  split at h
  · cases h
  · split at h
    · cases h
    · rename_i h2
      obtain ⟨tbs, s1, s2, hs⟩ := seqM_three (Decidable.not_not.1 h2)
      rw [hs] at h
      refine ⟨tbs, s1, s2, hs, ?_⟩
      simp only at h
      unfold of1 at h
      split at h
      · cases h
      · rename_i h3
        have h3 := Decidable.not_not.1 h3
        rw [of2_good h]
        exact ⟨(seqM_ok h3).1, (seqM_ok h3).2, seqM_cons h3⟩

theorem pathsOf_at {ks : List Int} {j : Nat} (hj : j < ks.length) : (pathsOf ks)[j + 1]'(by rw [pathsOf_len]; omega) = if ks[j] < 0 then [] else [0, ks[j]] := by
  simp [pathsOf, List.getElem_append_left, hj]

theorem pathM_eq {ks : List Int} (hl : ks.length = 10) (hc : Consec ks) {p : Nat} (hp : p < 13) : pathM p (hasOf ks) = (pathsOf ks)[p]'(by rw [pathsOf_len]; omega) := by
  unfold pathM
  by_cases h0 : p = 0
  · subst h0; rfl
  rw [if_neg h0]
  by_cases h11 : p = 11
  · subst h11
    simp [pathsOf, List.getElem_append_right, hl]
  rw [if_neg h11]
  by_cases h12 : p = 12
  · subst h12
    simp [pathsOf, List.getElem_append_right, hl]
  rw [if_neg h12]
  obtain ⟨j, rfl⟩ : ∃ j, p = j + 1 := ⟨p - 1, by omega⟩
  have hj : j < ks.length := by omega
  rw [pathsOf_at hj]
  have hh : (hasOf ks).getD (j + 1) false = decide (0 ≤ ks[j]) := by
    simp [hasOf, List.getElem?_append_left, hj]
  rw [hh]
  have hcnt : cntM (hasOf ks) (j + 1) = cnn (ks.take j) := by
    unfold cntM hasOf cnn
    rw [List.take_succ_cons, List.drop_succ_cons, List.drop_zero, List.take_append_of_le_length (by simp; omega), ← List.map_take, List.count_eq_countP, List.countP_map]
    congr 1
    funext k
    simp
  rcases hc j hj with h | h
  · rw [h]; rfl
  · rw [hcnt, h]
    have h1 : ¬ (cnn (ks.take j) : Int) < 0 := by omega
    have h2 : (0 : Int) ≤ (cnn (ks.take j) : Nat) := by omega
    simp [h2]

theorem elemM_good {e : El} {v : Int} {ks : List Int} (h : ofM e = .good v ks) {p : Nat} (hp : p < 13) (hl : p < (pathsOf ks).length) : (elemM e p).isSome = decide ((pathsOf ks)[p] ≠ []) := by
  obtain ⟨tbs, s1, s2, hs, hk, hr, -⟩ := ofM_good h
  unfold elemM
  rw [h]
  simp only
  rw [if_neg (by omega), List.getD_eq_getElem?_getD, List.getElem?_eq_getElem hl]
  simp only [Option.getD_some]
  by_cases he : (pathsOf ks)[p] = []
  · rw [if_pos he]; simp [he]
  · rw [if_neg he]
    have h00 : stepM e 0 = some tbs := by simp [stepM, hs]
    have h01 : stepM e 1 = some s1 := by simp [stepM, hs]
    have h02 : stepM e 2 = some s2 := by simp [stepM, hs]
    have hd : decide ((pathsOf ks)[p] ≠ []) = true := by simpa using he
    rw [hd]
    by_cases h0 : p = 0
    · subst h0
      show (atM e [0]).isSome = true
      simp [atM, h00]
    by_cases h11 : p = 11
    · subst h11
      have : (pathsOf ks)[11] = [1] := by simp [pathsOf, List.getElem_append_right, hk]
      rw [this]
      simp [atM, h01]
    by_cases h12 : p = 12
    · subst h12
      have : (pathsOf ks)[12] = [2] := by simp [pathsOf, List.getElem_append_right, hk]
      rw [this]
      simp [atM, h02]
    obtain ⟨j, rfl⟩ : ∃ j, p = j + 1 := ⟨p - 1, by omega⟩
    have hj : j < ks.length := by omega
    rw [pathsOf_at hj] at he ⊢
    split at he
    · exact absurd rfl he
    · rename_i hneg
      rw [if_neg hneg]
      have hb := hr ks[j] (List.getElem_mem _)
      have hlt : ks[j].toNat < tbs.subs.length := by omega
      have h2 : stepM tbs ks[j] = some tbs.subs[ks[j].toNat] := by
        unfold stepM
        rw [if_neg hneg, List.getElem?_eq_getElem hlt]
      simp [atM, h00, h2]

end Go.Vid
