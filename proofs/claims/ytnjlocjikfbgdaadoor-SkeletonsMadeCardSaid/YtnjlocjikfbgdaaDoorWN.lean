/-
wrong: the summary.
-/
import Derived.Test.YtnjlocjikfbgdaaDoorWI
set_option linter.all false
namespace Go.Vid
open Go.Proofs
set_option maxRecDepth 100000
set_option linter.unusedVariables false
section
open AExit AOut AV IntKind

end

theorem verM_v {x : El} (h : (verM x).2.2 = 0) : (verM x).1 = 2 ∨ (verM x).1 = 3 := by
  unfold verM at h ⊢
  split at h
  · rename_i h1; exact absurd h h1
  · rename_i h1
    rw [if_neg h1]
    obtain ⟨-, -, -, y, hy⟩ := explM_ok (Decidable.not_not.1 h1)
    rw [hy] at h ⊢
    simp only at h ⊢
    split at h
    · rename_i h2
      rw [if_pos h2]
      simp only at h ⊢
      unfold underM at h
      split at h
      · rename_i h3
        unfold verErr at h3
        split at h3
        · rename_i h4; exact absurd h3 h4
        · split at h3
          · cases h3
          · split at h3
            · cases h3
            · rename_i h5
              have : (getInt y.bs).1 = 1 ∨ (getInt y.bs).1 = 2 := by omega
              rcases this with h6 | h6
              · left; rw [h6]; rfl
              · right; rw [h6]; rfl
      · rename_i h3; exact absurd h h3
    · cases h

theorem ver2_ok {subs : List El} {th : Bool} (hth : th = true → subs ≠ []) (h : (ver2 subs th).2.2 = 0) : (ver2 subs th).1 = 1 ∨ (ver2 subs th).1 = 2 ∨ (ver2 subs th).1 = 3 := by
  unfold ver2 at h ⊢
  by_cases ht : th = false
  · rw [if_pos ht]; exact .inl rfl
  rw [if_neg ht] at h ⊢
  match subs, hth (by simpa using ht) with
  | x :: xs, _ =>
  simp only at h ⊢
  split at h
  · rename_i h1; exact absurd h h1
  · rename_i h1
    rw [if_neg h1]
    exact .inr (verM_v (Decidable.not_not.1 h1))

theorem ver2_bad {subs : List El} {th : Bool} (h : (ver2 subs th).2.2 ≠ 0) : (ver2 subs th).1 = 0 := by
  unfold ver2 at h ⊢
  by_cases ht : th = false
  · rw [if_pos ht] at h; exact absurd rfl h
  rw [if_neg ht] at h ⊢
  match subs with
  | [] => rfl
  | x :: xs =>
  simp only at h ⊢
  split at h
  · rename_i h1; rw [if_pos h1]
  · exact absurd rfl h

theorem of2_ver2 {subs : List El} {ks : List Int} (hth : 0 ≤ ks.getD 0 (-1) → subs ≠ []) :
    of2 subs ks = if (ver2 subs (decide (0 ≤ ks.getD 0 (-1)))).2.2 ≠ 0 then .bad (ver2 subs (decide (0 ≤ ks.getD 0 (-1)))).2.1 (ver2 subs (decide (0 ≤ ks.getD 0 (-1)))).2.2 else of3 subs (ver2 subs (decide (0 ≤ ks.getD 0 (-1)))).1 ks := by
  unfold of2 ver2
  by_cases h : ks.getD 0 (-1) < 0
  · have : decide (0 ≤ ks.getD 0 (-1)) = false := decide_eq_false (by omega)
    rw [if_pos h, this]
    simp
  · have h2 : decide (0 ≤ ks.getD 0 (-1)) = true := decide_eq_true (by omega)
    rw [if_neg h, h2]
    match subs, hth (by omega) with
    | x :: xs, _ =>
    simp only [Bool.true_eq_false, if_false]
    by_cases h3 : (verM x).2.2 ≠ 0
    · rw [if_pos h3, if_pos h3]
      simp only
      rw [if_pos h3]
    · rw [if_neg h3, if_neg h3]
      simp

def WrongV (r : OfR) (o : AV) : Prop := match r with
  | .bad p err => ∃ (hs : List Bool) (b : AV), hs.length = 13 ∧ FA p err false b ∧ o = .tup [.int .i64 0, .agg (hs.map AV.bool), b]
  | .good v ks => ∃ b, FA [] 0 false b ∧ o = .tup [.int .i64 v, .agg ((hasOf ks).map AV.bool), b]

theorem wbad {R : OfR} {hs : List Bool} {b : AV} {p : List Int} {err : Int} (hR : R = .bad p err) (hl : hs.length = 13) (hf : FA p err false b) : ∃ v, AOut.ret (.tup [.int .i64 0, .agg (hs.map AV.bool), b]) = .ret v ∧ WrongV R v := by
  subst hR
  exact ⟨_, rfl, hs, b, hl, hf, rfl⟩

theorem FA.weak {p : List Int} {e : Int} {ex : Bool} {a : AV} (h : FA p e ex a) : FA p e false a := by
  obtain ⟨nl, xs, cp, h1, h2, h3, h4, h5⟩ := h
  exact ⟨nl, xs, cp, h1, h2, by simp, h4, h5⟩

theorem fa_two {k e : Int} : FA [0, k] e false (.agg [.lsl false 0 [.int .i64 0, .int .i64 k] 2 (some 2), .int .i64 e]) := ⟨false, [], some 2, rfl, capOk_some, by simp, by simp, by simp⟩

theorem of3_one {subs : List El} {k1 k2 k3 k4 k5 k6 k7 k8 k9 k10 : Int} : of3 subs 1 [k1, k2, k3, k4, k5, k6, k7, k8, k9, k10] = if 0 ≤ k8 then .bad [0, k8] 16 else if 0 ≤ k9 then .bad [0, k9] 16 else if 0 ≤ k10 then .bad [0, k10] 16 else .good 1 [k1, k2, k3, k4, k5, k6, k7, k8, k9, k10] := by
  unfold of3 of4
  simp only [true_and, true_or, List.getD_cons_succ, List.getD_cons_zero]
  by_cases h : 0 ≤ k10
  · simp only [h, if_true]
  · have : k10 < 0 := by omega
    simp only [h, this, if_true, if_false]

theorem of3_two {subs : List El} {k1 k2 k3 k4 k5 k6 k7 k8 k9 k10 : Int} : of3 subs 2 [k1, k2, k3, k4, k5, k6, k7, k8, k9, k10] = if 0 ≤ k10 then .bad [0, k10] 16 else .good 2 [k1, k2, k3, k4, k5, k6, k7, k8, k9, k10] := by
  unfold of3 of4
  simp only [show ¬ (2 : Int) = 1 by decide, false_and, or_true, true_and, if_false, List.getD_cons_succ, List.getD_cons_zero]
  by_cases h : 0 ≤ k10
  · simp only [h, if_true]
  · have : k10 < 0 := by omega
    simp only [h, this, if_true, if_false]

theorem of3_three {subs : List El} {k1 k2 k3 k4 k5 k6 k7 k8 k9 k10 : Int} : of3 subs 3 [k1, k2, k3, k4, k5, k6, k7, k8, k9, k10] = of4 subs 3 [k1, k2, k3, k4, k5, k6, k7, k8, k9, k10] := by
  unfold of3
  simp only [show ¬ (3 : Int) = 1 by decide, show ¬ (3 : Int) = 2 by decide, false_and, or_false, if_false]

theorem sum16 {e : El} {cells : List AV} (h : ElA e cells) : ∃ v, WrongV (ofM e) v ∧ Sm 16 [.agg cells] v := by
  have h0 := h
  obtain ⟨c, k, n, bs, subs⟩ := e
  obtain ⟨nl1, ex1, cp1, nl2, cs2, cp2, rfl, hc1, hl1, hn1, hc2, hl2, hn2, hs⟩ := h.out
  obtain ⟨R, hR⟩ : ∃ R, R = ofM (.mk c k n bs subs) := ⟨_, rfl⟩
  rw [← hR]
  refine sum_ex _ (vc16 ..) ?_
  refine ⟨_, _, _, sum28 0, _, sum37 h0, br_i (fun h1 => ?_) (fun h1 => ?_)⟩
  · have h1 : checkE (.mk c k n bs subs) ≠ 0 := by simpa using h1
    exact wbad (hs := List.replicate 13 false) (by rw [hR]; unfold ofM; rw [if_pos h1]) rfl (fa_nil _).weak
  have h1 : ¬ checkE (.mk c k n bs subs) ≠ 0 := by simpa using h1
  unfold ofM at hR
  rw [if_neg h1] at hR
  have hE0 := h0
  have hEs : (El.mk c k n bs subs).subs = subs := rfl
  have hsub0 := hs
  generalize hE : (El.mk c k n bs subs) = e at hE0 h1 hR hEs
  have ha : FS flds3 (.lsl false 0 [.int .u8 0, .bool true, .int .u32 16, .bool false, .bool false, .int .u8 0, .bool true, .int .u32 16, .bool false, .bool false, .int .u8 0, .bool false, .int .u32 3, .bool false, .bool false] 3 (some 3)) := ⟨false, [], some 3, rfl, capOk_some, by simp⟩
  have hpl := seqM_len e 0 true 16 flds3
  obtain ⟨vo, nlv, cpv, hsm, hcv, hxv, hnv, hsi, nlo, cso, leno, capo, rfl⟩ := sum38 hE0 0 true 16 ha
  have hfa : FA (seqM e 0 true 16 flds3).2.1 (seqM e 0 true 16 flds3).1 false (.agg [.lsl nlv 0 ((seqM e 0 true 16 flds3).2.1.map (AV.int .i64)) (seqM e 0 true 16 flds3).2.1.length cpv, .int .i64 (seqM e 0 true 16 flds3).1]) :=
    ⟨nlv, [], cpv, by simp, hcv, by simp, hnv, by omega⟩
  refine ⟨_, _, _, sum28 12, _, _, _, _, _, _, _, _, _, hsm, br_i (fun h2 => ?_) (fun h2 => ?_)⟩
  · have h2 : (seqM e 0 true 16 flds3).1 ≠ 0 := by simpa using h2
    exact wbad (hs := List.replicate 13 false) (by rw [hR, if_pos h2]) rfl hfa
  have h2 : ¬ (seqM e 0 true 16 flds3).1 ≠ 0 := by simpa using h2
  rw [if_neg h2] at hR
  obtain ⟨tbs, s1, s2, hsub⟩ := seqM_three (Decidable.not_not.1 h2)
  rw [hsub] at hR
  replace hR : R = of1 tbs := hR
  unfold of1 at hR
  rw [hEs] at hsub
  subst hsub
  clear hsi hsm hxv hnv hpl h2 h1
  have hnl2 : nl2 = false := by
    cases nl2
    · rfl
    · exact absurd (hn2 rfl) (by simp)
  obtain ⟨ae, kvs', σ', ⟨rfl, rfl, rfl⟩, hcd1⟩ := loop16a c n (seqM e 0 true 16 flds3).1 k nl1 nl2 nlv bs.length [tbs, s1, s2].length (seqM e 0 true 16 flds3).2.1.length (bs.map (AV.int .u8) ++ ex1) cs2 ((seqM e 0 true 16 flds3).2.1.map (AV.int .i64)) cp1 cp2 cpv 0 _ _ ⟨by omega, by rw [if_pos rfl]; exact ⟨rfl, rfl⟩⟩
  simp only [ElsA] at hs
  obtain ⟨ct, rt, rfl, ht, -⟩ := hs
  have ht0 := ht
  obtain ⟨c', k', n', bs', subs⟩ := tbs
  obtain ⟨nl1', ex1', cp1', nl2', cs2', cp2', rfl, hc1', hl1', hn1', hc2', hl2', hn2', hs'⟩ := ht.out
  refine ⟨hcd1, hnl2, by omega, by simp only [List.length_cons]; omega, _, _, _, _, _, _, _, _, _, _, _, _, rfl, ?_⟩
  clear hE hE0 hEs
  generalize hE : (El.mk c' k' n' bs' subs) = e' at ht0 hR
  have ha' : FS flds10 (.lsl false 0 (flR 10) 10 none) := ⟨false, [], none, by rw [List.append_nil]; rfl, capOk_none, by simp⟩
  have hpl' := seqM_len e' 0 true 16 flds10
  obtain ⟨vo', nlv', cpv', hsm', hcv', hxv', hnv', hsi', nlo', cso', leno', capo', rfl⟩ := sum38 ht0 0 true 16 ha'
  have hfa' : FA (seqM e' 0 true 16 flds10).2.1 (seqM e' 0 true 16 flds10).1 false (.agg [.lsl nlv' 0 ((seqM e' 0 true 16 flds10).2.1.map (AV.int .i64)) (seqM e' 0 true 16 flds10).2.1.length cpv', .int .i64 (seqM e' 0 true 16 flds10).1]) :=
    ⟨nlv', [], cpv', by simp, hcv', by simp, hnv', by omega⟩
  refine ⟨_, _, _, _, _, _, _, _, _, hsm', br_i (fun h2 => ?_) (fun h2 => ?_)⟩
  · have h2 : (seqM e' 0 true 16 flds10).1 ≠ 0 := by simpa using h2
    obtain ⟨v39, hv39, h39⟩ := sum39 hfa' (by omega) (p := [0]) (b := .lsl false 0 [.int .i64 0] 1 (some 1)) ⟨false, [], some 1, rfl, capOk_some, by simp, by simp⟩ (by simp)
    have hv390 := hv39
    obtain ⟨_, _, _, rfl, -⟩ := hv39
    exact ⟨_, _, _, _, _, h39, wbad (hs := List.replicate 13 false) (by rw [hR, if_pos h2]) rfl hv390⟩
  have h2 : ¬ (seqM e' 0 true 16 flds10).1 ≠ 0 := by simpa using h2
  rw [if_neg h2] at hR
  obtain ⟨hlen, hr⟩ := seqM_ok (Decidable.not_not.1 h2)
  have hsi' := hsi' (Decidable.not_not.1 h2)
  have hsubs : e'.subs = subs := by rw [← hE]; rfl
  rw [hsubs] at hR hr
  generalize (seqM e' 0 true 16 flds10).2.2 = ks at hR hlen hr hsi'
  obtain ⟨nlk, exk, cpk, hvo, hck, hlk, hnk⟩ := hsi'
  simp only [AV.lsl.injEq] at hvo
  obtain ⟨rfl, -, rfl, rfl, rfl⟩ := hvo
  obtain ⟨ae, kvs', σ', ⟨rfl, rfl, rfl⟩, hcd2⟩ := loop16b (ks := ks) (nla := nlo') (exa := exk) (cpa := capo') (by rw [hlen]; rfl) hnk c n (seqM e' 0 true 16 flds10).1 k nl1 nl2 nlv' bs.length [e', s1, s2].length (seqM e' 0 true 16 flds10).2.1.length (bs.map (AV.int .u8) ++ ex1)
    ([.int .u8 c', .bool k', .int .u32 n', .lsl nl1' 0 (bs'.map (AV.int .u8) ++ ex1') bs'.length cp1', .lsl nl2' 0 cs2' subs.length cp2'] ++ rt) ((seqM e' 0 true 16 flds10).2.1.map (AV.int .i64)) cp1 cp2 cpv' 0 _ _ ⟨by omega, rfl, rfl⟩
  match ks, hlen with
  | [k1, k2, k3, k4, k5, k6, k7, k8, k9, k10], hlen =>
  have hnlo : nlo' = false := by
    cases nlo'
    · rfl
    · exact absurd (hnk rfl) (by simp)
  refine ⟨true, decide (0 ≤ k1), decide (0 ≤ k2), decide (0 ≤ k3), decide (0 ≤ k4), decide (0 ≤ k5), decide (0 ≤ k6), decide (0 ≤ k7), decide (0 ≤ k8), decide (0 ≤ k9), decide (0 ≤ k10), true, true, hcd2, hnl2, by omega, by simp only [List.length_cons]; omega, _, _, _, _, _, _, _, _, _, _, _, _, rfl, ?_⟩
  have hth : 0 ≤ List.getD [k1, k2, k3, k4, k5, k6, k7, k8, k9, k10] 0 (-1) → subs ≠ [] := by
    intro h hn
    have h : 0 ≤ k1 := h
    have := hr k1 (List.mem_cons_self ..)
    rw [hn] at this
    simp at this
    omega
  rw [of2_ver2 hth] at hR
  have hth2 : decide (0 ≤ k1) = true → subs ≠ [] := fun h => hth (of_decide_eq_true h)
  have hok := ver2_ok hth2
  have hbd := @ver2_bad subs (decide (0 ≤ k1))
  obtain ⟨a40, ha40, h40⟩ := sum40 ht0 (decide (0 ≤ k1)) (by rw [hsubs]; exact hth2)
  rw [hsubs] at ha40 h40
  replace hR : R = if (ver2 subs (decide (0 ≤ k1))).2.2 ≠ 0 then .bad (ver2 subs (decide (0 ≤ k1))).2.1 (ver2 subs (decide (0 ≤ k1))).2.2 else of3 subs (ver2 subs (decide (0 ≤ k1))).1 [k1, k2, k3, k4, k5, k6, k7, k8, k9, k10] := hR
  have ha400 := ha40
  generalize ver2 subs (decide (0 ≤ k1)) = vm at hR hok hbd ha40 ha400 h40
  obtain ⟨v, vp, ve⟩ := vm
  simp only at hR hok hbd ha40 ha400 h40
  obtain ⟨nlf, xsf, cpf, rfl, -⟩ := ha40
  have hgood : ∀ (v : Int), R = .good v [k1, k2, k3, k4, k5, k6, k7, k8, k9, k10] → ∃ o, AOut.ret (.tup [.int .i64 v, .agg [.bool true, .bool (decide (0 ≤ k1)), .bool (decide (0 ≤ k2)), .bool (decide (0 ≤ k3)), .bool (decide (0 ≤ k4)), .bool (decide (0 ≤ k5)), .bool (decide (0 ≤ k6)), .bool (decide (0 ≤ k7)), .bool (decide (0 ≤ k8)), .bool (decide (0 ≤ k9)), .bool (decide (0 ≤ k10)), .bool true, .bool true], .agg [nilS, .int .i64 0]]) = .ret o ∧ WrongV R o := by
    intro v h; exact ⟨_, rfl, by rw [h]; exact ⟨_, (fa_nil 0).weak, rfl⟩⟩
  have hat : ∀ (j : Nat) (hj : j < 10), List.drop j ([k1, k2, k3, k4, k5, k6, k7, k8, k9, k10].map (AV.int .i64) ++ exk) = .int .i64 ([k1, k2, k3, k4, k5, k6, k7, k8, k9, k10][j]'hj) :: List.drop (j + 1) ([k1, k2, k3, k4, k5, k6, k7, k8, k9, k10].map (AV.int .i64) ++ exk) := fun j hj => SI.cells_at hj
  refine ⟨nlf, vp.map (AV.int .i64) ++ xsf, vp.length, cpf, ?_⟩
  by_cases hve : ve ≠ 0
  · have := hbd hve
    subst this
    exact .inr (.inr (.inr ⟨ve, h40, br_t (by simpa using hve) (wbad (hs := hasOf [k1, k2, k3, k4, k5, k6, k7, k8, k9, k10]) (by rw [hR, if_pos hve]) rfl ha400)⟩))
  rw [if_neg hve] at hR
  have hve := Decidable.not_not.1 hve
  subst hve
  rcases hok rfl with rfl | rfl | rfl
  · rw [of3_one] at hR
    refine .inl ⟨h40, ?_⟩
    by_cases h8 : 0 ≤ k8
    · rw [if_pos h8] at hR
      exact br_t (decide_eq_true h8) ⟨hnlo, by omega, by simp, _, _, hat 7 (by omega), wbad (hs := hasOf [k1, k2, k3, k4, k5, k6, k7, k8, k9, k10]) hR rfl fa_two⟩
    rw [if_neg h8] at hR
    refine br_f (decide_eq_false h8) ?_
    by_cases h9 : 0 ≤ k9
    · rw [if_pos h9] at hR
      exact br_t (decide_eq_true h9) ⟨hnlo, by omega, by simp, _, _, hat 8 (by omega), wbad (hs := hasOf [k1, k2, k3, k4, k5, k6, k7, k8, k9, k10]) hR rfl fa_two⟩
    rw [if_neg h9] at hR
    refine br_f (decide_eq_false h9) ?_
    by_cases h10 : 0 ≤ k10
    · rw [if_pos h10] at hR
      exact br_t (decide_eq_true h10) ⟨hnlo, by omega, by simp, _, _, hat 9 (by omega), wbad (hs := hasOf [k1, k2, k3, k4, k5, k6, k7, k8, k9, k10]) hR rfl fa_two⟩
    rw [if_neg h10] at hR
    exact br_f (decide_eq_false h10) (br_f (decide_eq_false h10) (hgood _ hR))
  · rw [of3_two] at hR
    refine .inr (.inl ⟨h40, ?_⟩)
    by_cases h10 : 0 ≤ k10
    · rw [if_pos h10] at hR
      exact br_t (decide_eq_true h10) ⟨hnlo, by omega, by simp, _, _, hat 9 (by omega), wbad (hs := hasOf [k1, k2, k3, k4, k5, k6, k7, k8, k9, k10]) hR rfl fa_two⟩
    rw [if_neg h10] at hR
    exact br_f (decide_eq_false h10) (br_f (decide_eq_false h10) (hgood _ hR))
  · rw [of3_three] at hR
    unfold of4 at hR
    rw [show List.getD [k1, k2, k3, k4, k5, k6, k7, k8, k9, k10] 9 (-1) = k10 from rfl] at hR
    refine .inr (.inr (.inl ⟨h40, ?_⟩))
    by_cases h10 : 0 ≤ k10
    · have hkl : k10 < subs.length := by
        rcases hr k10 (by simp) with h | h
        · omega
        · exact h.2
      have hnl2' : nl2' = false := by
        cases nl2'
        · rfl
        · rw [hn2' rfl] at hkl; simp at hkl; omega
      obtain ⟨c5, k5', n5, bs5, ss5, nla, exa, cpa, nlb, csb, cpb, tl, hget, hdrop, hel⟩ := hs'.cell (i := k10.toNat) (by omega)
      rw [if_neg (by omega), hget] at hR
      simp only at hR
      refine br_t (decide_eq_true h10) ⟨hnl2, by omega, by simp only [List.length_cons]; omega, _, _, _, _, _, _, _, _, _, _, _, _, rfl, hnlo, by omega, by simp, _, _, hat 9 (by omega), hnl2', h10, hkl, _, _, _, _, _, _, _, _, _, _, _, _, hdrop, ?_⟩
      have hel0 := hel
      generalize hE5 : El.mk c5 k5' n5 bs5 ss5 = e5 at hR hel0
      have hss : e5.subs = ss5 := by rw [← hE5]; rfl
      obtain ⟨a41, ha41, h41⟩ := sum41 hel0 3
      have hel41 := explM_len e5 3
      have ha410 := ha41
      obtain ⟨nlg, xsg, cpg, rfl, -⟩ := ha41
      refine ⟨_, _, _, _, _, h41, br_i (fun hz => ?_) (fun hz => br_t ?_ ?_)⟩
      · have hz : (explM e5 3).1 = 0 := by simpa using hz
        obtain ⟨-, -, -, y, hy⟩ := explM_ok hz
        rw [hss] at hy
        subst hy
        obtain ⟨_, _, _, _, _, _, hcc, -, -, -, -, -, hnb, hsb⟩ := hel.out
        simp only [List.cons.injEq, AV.lsl.injEq] at hcc
        obtain ⟨-, -, -, -, ⟨rfl, -, rfl, -, rfl⟩, -⟩ := hcc
        have hnlb : nlb = false := by
          cases nlb
          · rfl
          · exact absurd (hnb rfl) (by simp)
        simp only [ElsA] at hsb
        obtain ⟨cy, ty, rfl, hy, -⟩ := hsb
        obtain ⟨cY, kY, nY, bsY, ssY⟩ := y
        obtain ⟨_, _, _, _, _, _, rfl, -⟩ := hy.out
        have hx5 : extM e5 = if cY = 0 ∧ kY = true ∧ nY = 16 then ([], 0) else ([0], 9) := by
          unfold extM
          rw [if_neg (by simp [hz]), hss]
          rfl
        rw [hx5] at hR
        refine ⟨hnlb, by omega, by simp, _, _, _, _, _, _, _, _, _, _, _, _, rfl, br_i (fun ht => ?_) (fun ht => ?_)⟩
        · have ht : ¬ (cY = 0 ∧ kY = true ∧ nY = 16) := by
            intro ⟨h1, h2, h3⟩; subst h1; subst h2; subst h3; simp at ht
          rw [if_neg ht] at hR
          obtain ⟨v39, hv39, h39⟩ := sum39 (path := [0]) (err := 9) (ex := true) (a := .agg [.lsl false 0 [.int .i64 0] 1 (some 1), .int .i64 9]) ⟨false, [], some 1, rfl, capOk_some, fun _ => rfl, by simp, by simp⟩ (by simp) (p := [0, k10]) (b := .lsl false 0 [.int .i64 0, .int .i64 k10] 2 (some 2)) ⟨false, [], some 2, rfl, capOk_some, by simp, by simp⟩ (by simp)
          have hv390 := hv39
          obtain ⟨_, _, _, rfl, -⟩ := hv39
          exact ⟨hnlo, by omega, by simp, _, _, hat 9 (by omega), _, _, _, _, _, h39, wbad (hs := hasOf [k1, k2, k3, k4, k5, k6, k7, k8, k9, k10]) (by rw [hR]; rfl) rfl hv390⟩
        · have ht : cY = 0 ∧ kY = true ∧ nY = 16 := by
            simp at ht; exact ht
          rw [if_pos ht] at hR
          exact br_f (by simp [hz]) (hgood _ (by rw [hR]; rfl))
      · simpa using hz
      · have hz : (explM e5 3).1 ≠ 0 := by simpa using hz
        have hx5 : extM e5 = ((explM e5 3).2, (explM e5 3).1) := by
          unfold extM
          rw [if_pos hz]
        rw [hx5] at hR
        obtain ⟨v39, hv39, h39⟩ := sum39 ha410 (by omega) (p := [0, k10]) (b := .lsl false 0 [.int .i64 0, .int .i64 k10] 2 (some 2)) ⟨false, [], some 2, rfl, capOk_some, by simp, by simp⟩ (by simp)
        have hv390 := hv39
        obtain ⟨_, _, _, rfl, -⟩ := hv39
        exact ⟨hnlo, by omega, by simp, _, _, hat 9 (by omega), _, _, _, _, _, h39, wbad (hs := hasOf [k1, k2, k3, k4, k5, k6, k7, k8, k9, k10]) (by rw [hR, if_pos hz]) rfl hv390⟩
    · rw [if_pos (by omega)] at hR
      exact br_f (decide_eq_false h10) (hgood _ hR)

end Go.Vid
