/-
SkeletonsOf, given what lives() tells.
-/
import Derived.Test.YtnjlocjikfbgdaaDoorWN
set_option linter.all false
namespace Go.Vid
open Go.Proofs
set_option maxRecDepth 100000
set_option linter.unusedVariables false
section
open AExit AOut AV IntKind
abbrev tb_r7 : List (FuncId × Sc) := [(7, { ops := [(14, [(2, Kd.w), (3, Kd.w)])], lax := [62] })]
theorem r7 (p ec en ge : Int) (ek nle1 nle2 h0 h1 h2 h3 h4 h5 h6 h7 h8 h9 ha hb hc nlg : Bool) (lene1 lene2 leng : Nat) (cse1 cse2 css csg : List AV) (cpe1 cpe2 cpg : Option Nat) (K : AExit → List (Nat × AV) → St → Prop) : (roundT Tryd.prog env tb_r7 7 (bodyL Tryd.f7 0) 0 69 [1, 4, 7, 8, 9, 2] [2] [(1, ref 0 0), (4, ref 1 0), (7, ref 2 0), (8, ref 3 0), (9, int i64 p), (2, AV.bool false)] ⟨[some (AObj.cells [int u8 ec, AV.bool ek, int u32 en, lsl nle1 0 cse1 lene1 cpe1, lsl nle2 0 cse2 lene2 cpe2] 32 false), some (AObj.cells css 62 false), some (AObj.cells [AV.bool h0, AV.bool h1, AV.bool h2, AV.bool h3, AV.bool h4, AV.bool h5, AV.bool h6, AV.bool h7, AV.bool h8, AV.bool h9, AV.bool ha, AV.bool hb, AV.bool hc] 34 false), some (AObj.cells [lsl nlg 0 csg leng cpg, int i64 ge] 50 false)], 0⟩ K) =
    (br (decide (p < (13 : Int))) (br (ge == (0 : Int)) (∃ b1 cs2 n3 cp4, Sm 23 [int u8 (wrap u8 p), agg [AV.bool h0, AV.bool h1, AV.bool h2, AV.bool h3, AV.bool h4, AV.bool h5, AV.bool h6, AV.bool h7, AV.bool h8, AV.bool h9, AV.bool ha, AV.bool hb, AV.bool hc]] ((lsl b1 0 cs2 n3 cp4)) ∧ (0 : Int) ≤ p ∧ p < (13 : Int) ∧ ∃ b5 cs6 n7 cp8 cs9, List.drop (1 + Int.toNat p * 1) css = lsl b5 0 cs6 n7 cp8 :: cs9 ∧ ∃ z10, Sm 22 [lsl b5 0 cs6 n7 cp8, lsl b1 0 cs2 n3 cp4] ((int i64 z10)) ∧ br (z10 == (0 : Int)) (K AExit.ret [(2, AV.bool false)] ⟨[], 0⟩) (∃ z11 b12 z13 b14 cs15 n16 cp17 b18 cs19 n20 cp21 b22, Sm 24 [agg [int u8 ec, AV.bool ek, int u32 en, lsl nle1 0 cse1 lene1 cpe1, lsl nle2 0 cse2 lene2 cpe2], int u8 (wrap u8 p)] ((tup [agg [int u8 z11, AV.bool b12, int u32 z13, lsl b14 0 cs15 n16 cp17, lsl b18 0 cs19 n20 cp21], AV.bool b22])) ∧ br (!b22 == decide ((↑n3 : Int) > (0 : Int))) (K AExit.ret [(2, AV.bool false)] ⟨[], 0⟩) (tagLeL 0 css = true ∧ K normal [(1, ref 0 0), (4, ref 1 0), (7, ref 2 0), (8, ref 3 0), (9, int i64 (wrap i64 (p + (1 : Int)))), (2, AV.bool false)] ⟨[some (AObj.cells [int u8 ec, AV.bool ek, int u32 en, lsl nle1 0 cse1 lene1 cpe1, lsl nle2 0 cse2 lene2 cpe2] 32 false), some (AObj.cells css 62 false), some (AObj.cells [AV.bool h0, AV.bool h1, AV.bool h2, AV.bool h3, AV.bool h4, AV.bool h5, AV.bool h6, AV.bool h7, AV.bool h8, AV.bool h9, AV.bool ha, AV.bool hb, AV.bool hc] 34 false), some (AObj.cells [lsl nlg 0 csg leng cpg, int i64 ge] 50 false)], 0⟩))) ((0 : Int) ≤ p ∧ p < (13 : Int) ∧ ∃ b23 cs24 n25 cp26 cs27, List.drop (1 + Int.toNat p * 1) css = lsl b23 0 cs24 n25 cp26 :: cs27 ∧ ∃ z28, Sm 22 [lsl b23 0 cs24 n25 cp26, nilS] ((int i64 z28)) ∧ br (z28 == (0 : Int)) (K AExit.ret [(2, AV.bool false)] ⟨[], 0⟩) (∃ z29 b30 z31 b32 cs33 n34 cp35 b36 cs37 n38 cp39 b40, Sm 24 [agg [int u8 ec, AV.bool ek, int u32 en, lsl nle1 0 cse1 lene1 cpe1, lsl nle2 0 cse2 lene2 cpe2], int u8 (wrap u8 p)] ((tup [agg [int u8 z29, AV.bool b30, int u32 z31, lsl b32 0 cs33 n34 cp35, lsl b36 0 cs37 n38 cp39], AV.bool b40])) ∧ br (!b40 == false) (K AExit.ret [(2, AV.bool false)] ⟨[], 0⟩) (tagLeL 0 css = true ∧ K normal [(1, ref 0 0), (4, ref 1 0), (7, ref 2 0), (8, ref 3 0), (9, int i64 (wrap i64 (p + (1 : Int)))), (2, AV.bool false)] ⟨[some (AObj.cells [int u8 ec, AV.bool ek, int u32 en, lsl nle1 0 cse1 lene1 cpe1, lsl nle2 0 cse2 lene2 cpe2] 32 false), some (AObj.cells css 62 false), some (AObj.cells [AV.bool h0, AV.bool h1, AV.bool h2, AV.bool h3, AV.bool h4, AV.bool h5, AV.bool h6, AV.bool h7, AV.bool h8, AV.bool h9, AV.bool ha, AV.bool hb, AV.bool hc] 34 false), some (AObj.cells [lsl nlg 0 csg leng cpg, int i64 ge] 50 false)], 0⟩)))) (K (exit 0) [(2, AV.bool false)] ⟨[], 0⟩)) := by kernel_rfl
theorem vc7 (ec en : Int) (ek nle1 nle2 : Bool) (lene1 lene2 : Nat) (cse1 cse2 : List AV) (cpe1 cpe2 : Option Nat) (K : AOut → Prop) : (dataT Tryd.prog env [(7, { ops := [(6, [(4, Kd.b)])], loops := [(0, LoopS.inv [1, 4, 7, 8, 9, 2] fun _ σ => Sh.or (Sh.one (exit 0, [(2, AV.bool false)], ⟨[], 0⟩)) (Sh.one (AExit.ret, [(2, AV.bool false)], ⟨[], 0⟩)))], calls := [(2, [(1, Sh.int fun r => Sh.int fun l => Sh.one (AOut.ret (int i64 r), ⟨[oi l], 0⟩))])] })] 7 [agg [int u8 ec, AV.bool ek, int u32 en, lsl nle1 0 cse1 lene1 cpe1, lsl nle2 0 cse2 lene2 cpe2]] K) =
    (∃ z1 z2, Cl 26 [agg [int u8 ec, AV.bool ek, int u32 en, lsl nle1 0 cse1 lene1 cpe1, lsl nle2 0 cse2 lene2 cpe2], ref 0 0, int i64 0] ⟨[oi 120], 0⟩ (AOut.ret (int i64 z1)) ⟨[oi z2], 0⟩ ∧ br (z1 == (0 : Int)) (∃ b3, Sm 14 [] ((AV.bool b3)) ∧ K (AOut.ret (AV.bool b3))) (∃ z4 b5 cs6 n7 cp8 b9 cs10 n11 cp12 b13 cs14 n15 cp16 b17 cs18 n19 cp20 b21 cs22 n23 cp24 b25 cs26 n27 cp28 b29 cs30 n31 cp32 b33 cs34 n35 cp36 b37 cs38 n39 cp40 b41 cs42 n43 cp44 b45 cs46 n47 cp48 b49 cs50 n51 cp52 b53 cs54 n55 cp56 b57 cs58 n59 cp60 z61, Sm 20 [agg [int u8 ec, AV.bool ek, int u32 en, lsl nle1 0 cse1 lene1 cpe1, lsl nle2 0 cse2 lene2 cpe2]] ((tup [agg [int i64 z4, lsl b5 0 cs6 n7 cp8, lsl b9 0 cs10 n11 cp12, lsl b13 0 cs14 n15 cp16, lsl b17 0 cs18 n19 cp20, lsl b21 0 cs22 n23 cp24, lsl b25 0 cs26 n27 cp28, lsl b29 0 cs30 n31 cp32, lsl b33 0 cs34 n35 cp36, lsl b37 0 cs38 n39 cp40, lsl b41 0 cs42 n43 cp44, lsl b45 0 cs46 n47 cp48, lsl b49 0 cs50 n51 cp52, lsl b53 0 cs54 n55 cp56], agg [lsl b57 0 cs58 n59 cp60, int i64 z61]])) ∧ ∃ z62 b63 b64 b65 b66 b67 b68 b69 b70 b71 b72 b73 b74 b75 b76 cs77 n78 cp79 z80, Sm 16 [agg [int u8 ec, AV.bool ek, int u32 en, lsl nle1 0 cse1 lene1 cpe1, lsl nle2 0 cse2 lene2 cpe2]] ((tup [int i64 z62, agg [AV.bool b63, AV.bool b64, AV.bool b65, AV.bool b66, AV.bool b67, AV.bool b68, AV.bool b69, AV.bool b70, AV.bool b71, AV.bool b72, AV.bool b73, AV.bool b74, AV.bool b75], agg [lsl b76 0 cs77 n78 cp79, int i64 z80]])) ∧ ∃ z81, Sm 21 [agg [lsl b57 0 cs58 n59 cp60, int i64 z61], agg [lsl b76 0 cs77 n78 cp79, int i64 z80]] ((int i64 z81)) ∧ br (z81 == (0 : Int)) (K (AOut.ret (AV.bool false))) (br (z4 != z62) (K (AOut.ret (AV.bool false))) ((Cd 0 (Code.loop (bodyL Tryd.f7 0)) (frOf 69 [(1, ref 0 0), (4, ref 1 0), (7, ref 2 0), (8, ref 3 0), (9, int i64 0), (2, AV.bool false)]) ⟨[some (AObj.cells [int u8 ec, AV.bool ek, int u32 en, lsl nle1 0 cse1 lene1 cpe1, lsl nle2 0 cse2 lene2 cpe2] 32 false), some (AObj.cells [int i64 z4, lsl b5 0 cs6 n7 cp8, lsl b9 0 cs10 n11 cp12, lsl b13 0 cs14 n15 cp16, lsl b17 0 cs18 n19 cp20, lsl b21 0 cs22 n23 cp24, lsl b25 0 cs26 n27 cp28, lsl b29 0 cs30 n31 cp32, lsl b33 0 cs34 n35 cp36, lsl b37 0 cs38 n39 cp40, lsl b41 0 cs42 n43 cp44, lsl b45 0 cs46 n47 cp48, lsl b49 0 cs50 n51 cp52, lsl b53 0 cs54 n55 cp56] 62 false), some (AObj.cells [AV.bool b63, AV.bool b64, AV.bool b65, AV.bool b66, AV.bool b67, AV.bool b68, AV.bool b69, AV.bool b70, AV.bool b71, AV.bool b72, AV.bool b73, AV.bool b74, AV.bool b75] 34 false), some (AObj.cells [lsl b76 0 cs77 n78 cp79, int i64 z80] 50 false)], 0⟩ (exit 0) (frOf 69 [(2, AV.bool false)]) ⟨[], 0⟩ ∧ ∃ b82, Sm 14 [] ((AV.bool b82)) ∧ K (AOut.ret (AV.bool b82))) ∨ Cd 0 (Code.loop (bodyL Tryd.f7 0)) (frOf 69 [(1, ref 0 0), (4, ref 1 0), (7, ref 2 0), (8, ref 3 0), (9, int i64 0), (2, AV.bool false)]) ⟨[some (AObj.cells [int u8 ec, AV.bool ek, int u32 en, lsl nle1 0 cse1 lene1 cpe1, lsl nle2 0 cse2 lene2 cpe2] 32 false), some (AObj.cells [int i64 z4, lsl b5 0 cs6 n7 cp8, lsl b9 0 cs10 n11 cp12, lsl b13 0 cs14 n15 cp16, lsl b17 0 cs18 n19 cp20, lsl b21 0 cs22 n23 cp24, lsl b25 0 cs26 n27 cp28, lsl b29 0 cs30 n31 cp32, lsl b33 0 cs34 n35 cp36, lsl b37 0 cs38 n39 cp40, lsl b41 0 cs42 n43 cp44, lsl b45 0 cs46 n47 cp48, lsl b49 0 cs50 n51 cp52, lsl b53 0 cs54 n55 cp56] 62 false), some (AObj.cells [AV.bool b63, AV.bool b64, AV.bool b65, AV.bool b66, AV.bool b67, AV.bool b68, AV.bool b69, AV.bool b70, AV.bool b71, AV.bool b72, AV.bool b73, AV.bool b74, AV.bool b75] 34 false), some (AObj.cells [lsl b76 0 cs77 n78 cp79, int i64 z80] 50 false)], 0⟩ AExit.ret (frOf 69 [(2, AV.bool false)]) ⟨[], 0⟩ ∧ K (AOut.ret (AV.bool false)))))) := by kernel_rfl
end

/-! SkeletonsOf, given what lives() tells -/
theorem u8_13 : ∀ p : Fin 13, IntKind.u8.wrap ((p.val : Nat) : Int) = ((p.val : Nat) : Int) := by decide

theorem pA_tag (l : List Int) : tagLe 0 (pA l) = true := by simp [tagLe]

theorem loop7 {e : El} {cells : List AV} (h : ElA e cells) (hb : e.Bd) {hs : List Bool} (hhs : hs.length = 13) {paths : List (List Int)} (hpl : paths.length = 13) (hsm : ∀ l ∈ paths, l.length ≤ 2) {ge : Int}
    (hw : ∀ (p : Nat) (hp : p < 13), paths[p] = if ge = 0 then pathM p hs else []) (hel : ∀ (p : Nat) (hp : p < 13), (elemM e p).isSome = decide (paths[p] ≠ [])) (v : Int) (nlg : Bool) (csg : List AV) (leng : Nat) (cpg : Option Nat) :
    ∀ (p : Nat) (kvs : List (Nat × AV)) (σ : St), (p ≤ 13 ∧ kvs = [(1, .ref 0 0), (4, .ref 1 0), (7, .ref 2 0), (8, .ref 3 0), (9, .int .i64 p), (2, .bool false)] ∧
        σ = ⟨[some (.cells cells 32 false), some (.cells (.int .i64 v :: paths.map pA) 62 false), some (.cells (hs.map AV.bool) 34 false), some (.cells [.lsl nlg 0 csg leng cpg, .int .i64 ge] 50 false)], 0⟩) →
      ∃ ae kvs' σ', (ae = .exit 0 ∧ kvs' = [(2, .bool false)] ∧ σ' = ⟨[], 0⟩) ∧ Cd 0 (.loop (bodyL Tryd.f7 0)) (frOf 69 kvs) σ ae (frOf 69 kvs') σ' := by
  have h0 := h
  obtain ⟨_, _, _, _, _, _, _, _, _, _, _, rfl⟩ := h.cells
  match hs, hhs with
  | [h0', h1, h2, h3, h4, h5, h6, h7, h8, h9, ha, hb', hc], hhs =>
  refine loop_by (tb := tb_r7) (f := 7) (c := bodyL Tryd.f7 0) (k := 0) (N := 69) (keepN := [1, 4, 7, 8, 9, 2]) (keepX := [2]) env_ok _ _ (fun p => 13 - p) ?_
  rintro p kvs σ ⟨hp, rfl, rfl⟩
  simp only [List.map_cons, List.map_nil]
  rw [r7]
  have htag : tagLeL 0 (.int .i64 v :: paths.map pA) = true := by
    refine tagLeL_of fun a ha => ?_
    rcases List.mem_cons.1 ha with rfl | ha
    · rfl
    · obtain ⟨l, -, rfl⟩ := List.mem_map.1 ha; exact pA_tag l
  refine br_i (fun hlt => ?_) (fun hge => ?_)
  · have hlt : p < 13 := by have := of_decide_eq_true hlt; omega
    have hwu : IntKind.u8.wrap (p : Int) = p := u8_13 ⟨p, hlt⟩
    have hwi : IntKind.i64.wrap ((p : Int) + 1) = ((p + 1 : Nat) : Int) := by rw [wrap_small (by omega) (by omega)]; simp
    have hdrop : List.drop (1 + Int.toNat (p : Int) * 1) (.int .i64 v :: paths.map pA) = pA (paths[p]) :: (paths.map pA).drop (p + 1) := by
      rw [Int.toNat_natCast, Nat.mul_one, Nat.add_comm, List.drop_succ_cons, List.drop_eq_getElem_cons (by simpa using by omega), List.getElem_map]
    have hwp := hw p hlt
    have hep := hel p hlt
    have hl2 := hsm _ (List.getElem_mem (l := paths) (n := p) (by omega))
    generalize paths[p] = path at hdrop hwp hep hl2
    obtain ⟨c', hc', h24⟩ := sum24 h0 hb p
    obtain ⟨_, _, _, _, _, _, _, _, _, _, _, rfl⟩ := hc'.cells
    rw [hwu, hwi]
    refine br_i (fun hg => ?_) (fun hg => ?_)
    · have hg : ge = 0 := by simpa using hg
      rw [if_pos hg] at hwp
      obtain ⟨a23, ha23, h23⟩ := sum23 hhs hlt
      rw [← hwp] at ha23
      have h22 := sum22 (pA_sx (l := path) (by omega)) ha23
      rw [if_pos rfl] at h22
      obtain ⟨_, _, _, rfl, -, -, -⟩ := ha23
      refine ⟨_, _, _, _, h23, by omega, by omega, _, _, _, _, _, hdrop, _, h22, br_f rfl ⟨_, _, _, _, _, _, _, _, _, _, _, _, h24, br_f ?_ ⟨htag, p + 1, by omega, ⟨by omega, rfl, rfl⟩, fun ae kvs σ h => h⟩⟩⟩
      rw [hep]
      cases path <;> simp
    · have hg : ge ≠ 0 := by simpa using hg
      rw [if_neg hg] at hwp
      subst hwp
      have h22 := sum22 (pA_sx (l := []) (by simp)) si_nil
      rw [if_pos rfl] at h22
      refine ⟨by omega, by omega, _, _, _, _, _, hdrop, _, h22, br_f rfl ⟨_, _, _, _, _, _, _, _, _, _, _, _, h24, br_f ?_ ⟨htag, p + 1, by omega, ⟨by omega, rfl, rfl⟩, fun ae kvs σ h => h⟩⟩⟩
      rw [hep]
      simp
  · exact ⟨rfl, rfl, rfl⟩

theorem law7 (hlives : Sm 14 [] (.bool true)) {e : El} {cells : List AV} (h : ElA e cells) : Sm 7 [.agg cells] (.bool true) := by
  have h0 := h
  obtain ⟨_, _, _, _, _, _, _, _, _, _, _, rfl⟩ := h.cells
  refine sum_vc (vc7 ..) ?_
  refine ⟨_, _, call26 e _ 120 0 h0, br_i (fun h1 => ⟨_, hlives, rfl⟩) (fun h1 => ?_)⟩
  have h1 : (fewM e 120 0).1 ≠ 0 := by simpa using h1
  have hbd := few_bd e 120 0 h1
  obtain ⟨v20, hv20, h20⟩ := sum20 h0
  obtain ⟨v16, hv16, h16⟩ := sum16 h0
  match hof : ofM e with
  | .bad p err =>
    rw [hof] at hv20 hv16
    obtain ⟨herr, -, b, hb, rfl⟩ := hv20
    obtain ⟨hs, b2, hhs, hb2, rfl⟩ := hv16
    have h21 := sum21 hb hb2
    rw [if_pos ⟨rfl, rfl⟩] at h21
    obtain ⟨_, _, _, rfl, -⟩ := hb
    obtain ⟨nlg, xsg, cpg, rfl, -⟩ := hb2
    obtain ⟨ae, kvs', σ', ⟨rfl, rfl, rfl⟩, hcd⟩ := loop7 h0 hbd hhs (paths := List.replicate 13 []) (by simp) (by simp) (ge := err) (fun p hp => by rw [if_neg herr, List.getElem_replicate]) (fun p hp => by unfold elemM; rw [hof, List.getElem_replicate]; rfl) 0 nlg (p.map (AV.int .i64) ++ xsg) p.length cpg 0 _ _ ⟨by omega, rfl, rfl⟩
    match hs, hhs with
    | [h0', h1, h2, h3, h4, h5, h6, h7, h8, h9, ha, hb', hc], hhs =>
    exact ⟨_, _, _, _, _, _, _, _, _, _, _, _, _, _, _, _, _, _, _, _, _, _, _, _, _, _, _, _, _, _, _, _, _, _, _, _, _, _, _, _, _, _, _, _, _, _, _, _, _, _, _, _, _, _, _, _, _, _, h20, _, _, _, _, _, _, _, _, _, _, _, _, _, _, _, _, _, _, _, h16, _, h21, br_f rfl (br_f (by simp) (.inl ⟨hcd, _, hlives, rfl⟩))⟩
  | .good v ks =>
    obtain ⟨tbs, s1, s2, hs, hk, hr, hcons⟩ := ofM_good hof
    rw [hof] at hv20 hv16
    obtain ⟨-, rfl⟩ := hv20
    obtain ⟨b2, hb2, rfl⟩ := hv16
    have h21 := sum21 (fa_nil 0) hb2
    rw [if_pos ⟨rfl, rfl⟩] at h21
    obtain ⟨nlg, xsg, cpg, rfl, -⟩ := hb2
    have hpl : (pathsOf ks).length = 13 := by rw [pathsOf_len]; omega
    obtain ⟨ae, kvs', σ', ⟨rfl, rfl, rfl⟩, hcd⟩ := loop7 h0 hbd (hasOf_len hk) (paths := pathsOf ks) hpl (fun l hl => by
        obtain ⟨i, hi, rfl⟩ := List.getElem_of_mem hl
        exact pathsOf_small hi) (ge := 0) (fun p hp => by rw [if_pos rfl]; exact (pathM_eq hk hcons hp).symm) (fun p hp => elemM_good hof hp (by omega)) v nlg ([].map (AV.int .i64) ++ xsg) ([] : List Int).length cpg 0 _ _ ⟨by omega, rfl, rfl⟩
    rw [← skL_eq] at hcd
    match ks, hk with
    | [k1, k2, k3, k4, k5, k6, k7, k8, k9, k10], hk =>
    exact ⟨_, _, _, _, _, _, _, _, _, _, _, _, _, _, _, _, _, _, _, _, _, _, _, _, _, _, _, _, _, _, _, _, _, _, _, _, _, _, _, _, _, _, _, _, _, _, _, _, _, _, _, _, _, _, _, _, _, _, h20, _, _, _, _, _, _, _, _, _, _, _, _, _, _, _, _, _, _, _, h16, _, h21, br_f rfl (br_f (by simp) (.inl ⟨hcd, _, hlives, rfl⟩))⟩

end Go.Vid
