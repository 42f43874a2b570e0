/-
Spans: a summary.
-/
import Derived.Test.YtnjlocjikfbgdaaDoorWS
import Derived.Test.YtnjlocjikfbgdaaDoorWO
set_option linter.all false
namespace Go.Vid
open Go.Proofs
set_option maxRecDepth 100000
set_option linter.unusedVariables false
section
open AExit AOut AV IntKind
abbrev tb_r12 : List (FuncId × Sc) := [(12, { ops := [(11, [(1, Kd.w)]), (14, [(8, Kd.w), (10, Kd.w)]), (15, [(4, Kd.w), (6, Kd.w)])], lax := [42] })]
theorem r12 (p ec en : Int) (nlp0 nlp1 nlp2 nlp3 nlp4 nlp5 nlp6 nlp7 nlp8 nlp9 nlpa nlpb nlpc ek nle1 nle2 : Bool) (lenp0 lenp1 lenp2 lenp3 lenp4 lenp5 lenp6 lenp7 lenp8 lenp9 lenpa lenpb lenpc lene1 lene2 : Nat) (csp0 csp1 csp2 csp3 csp4 csp5 csp6 csp7 csp8 csp9 cspa cspb cspc cso cse1 cse2 : List AV) (cpp0 cpp1 cpp2 cpp3 cpp4 cpp5 cpp6 cpp7 cpp8 cpp9 cppa cppb cppc cpe1 cpe2 : Option Nat) (K : AExit → List (Nat × AV) → St → Prop) : (roundT Tryd.prog env tb_r12 12 (bodyL Tryd.f12 0) 0 72 [2, 5, 40, 41] [2] [(2, rsl 0 0 13 (some 13)), (5, ref 1 0), (40, agg [lsl nlp0 0 csp0 lenp0 cpp0, lsl nlp1 0 csp1 lenp1 cpp1, lsl nlp2 0 csp2 lenp2 cpp2, lsl nlp3 0 csp3 lenp3 cpp3, lsl nlp4 0 csp4 lenp4 cpp4, lsl nlp5 0 csp5 lenp5 cpp5, lsl nlp6 0 csp6 lenp6 cpp6, lsl nlp7 0 csp7 lenp7 cpp7, lsl nlp8 0 csp8 lenp8 cpp8, lsl nlp9 0 csp9 lenp9 cpp9, lsl nlpa 0 cspa lenpa cppa, lsl nlpb 0 cspb lenpb cppb, lsl nlpc 0 cspc lenpc cppc]), (41, int i64 p)] ⟨[some (AObj.cells cso 42 false), some (AObj.cells [int u8 ec, AV.bool ek, int u32 en, lsl nle1 0 cse1 lene1 cpe1, lsl nle2 0 cse2 lene2 cpe2] 32 false)], 0⟩ K) =
    (br (decide (p < (13 : Int))) ((0 : Int) ≤ p ∧ p < (13 : Int) ∧ ∃ b1 cs2 n3 cp4 cs5, List.drop (Int.toNat p * 1) [lsl nlp0 0 csp0 lenp0 cpp0, lsl nlp1 0 csp1 lenp1 cpp1, lsl nlp2 0 csp2 lenp2 cpp2, lsl nlp3 0 csp3 lenp3 cpp3, lsl nlp4 0 csp4 lenp4 cpp4, lsl nlp5 0 csp5 lenp5 cpp5, lsl nlp6 0 csp6 lenp6 cpp6, lsl nlp7 0 csp7 lenp7 cpp7, lsl nlp8 0 csp8 lenp8 cpp8, lsl nlp9 0 csp9 lenp9 cpp9, lsl nlpa 0 cspa lenpa cppa, lsl nlpb 0 cspb lenpb cppb, lsl nlpc 0 cspc lenpc cppc] = lsl b1 0 cs2 n3 cp4 :: cs5 ∧ br ((↑n3 : Int) == (0 : Int)) (tagLeL 0 cso = true ∧ K normal [(2, rsl 0 0 13 (some 13)), (5, ref 1 0), (40, agg [lsl nlp0 0 csp0 lenp0 cpp0, lsl nlp1 0 csp1 lenp1 cpp1, lsl nlp2 0 csp2 lenp2 cpp2, lsl nlp3 0 csp3 lenp3 cpp3, lsl nlp4 0 csp4 lenp4 cpp4, lsl nlp5 0 csp5 lenp5 cpp5, lsl nlp6 0 csp6 lenp6 cpp6, lsl nlp7 0 csp7 lenp7 cpp7, lsl nlp8 0 csp8 lenp8 cpp8, lsl nlp9 0 csp9 lenp9 cpp9, lsl nlpa 0 cspa lenpa cppa, lsl nlpb 0 cspb lenpb cppb, lsl nlpc 0 cspc lenpc cppc]), (41, int i64 (wrap i64 (p + (1 : Int))))] ⟨[some (AObj.cells cso 42 false), some (AObj.cells [int u8 ec, AV.bool ek, int u32 en, lsl nle1 0 cse1 lene1 cpe1, lsl nle2 0 cse2 lene2 cpe2] 32 false)], 0⟩) (∃ z6 b7 z8 b9 cs10 n11 cp12 b13 cs14 n15 cp16 z17, Sm 31 [agg [int u8 ec, AV.bool ek, int u32 en, lsl nle1 0 cse1 lene1 cpe1, lsl nle2 0 cse2 lene2 cpe2], lsl b1 0 cs2 n3 cp4] ((tup [agg [int u8 z6, AV.bool b7, int u32 z8, lsl b9 0 cs10 n11 cp12, lsl b13 0 cs14 n15 cp16], int i64 z17])) ∧ ∃ z18 z19, Sm 32 [agg [int u8 ec, AV.bool ek, int u32 en, lsl nle1 0 cse1 lene1 cpe1, lsl nle2 0 cse2 lene2 cpe2], lsl b1 0 cs2 n3 cp4] ((tup [int i64 z18, int i64 z19])) ∧ (0 : Int) ≤ p ∧ p < (13 : Int) ∧ 0 + Int.toNat p * 2 + 0 + 1 ≤ List.length cso ∧ ∃ z20, Sm 33 [agg [int u8 z6, AV.bool b7, int u32 z8, lsl b9 0 cs10 n11 cp12, lsl b13 0 cs14 n15 cp16]] ((int i64 z20)) ∧ (0 : Int) ≤ p ∧ p < (13 : Int) ∧ 0 + Int.toNat p * 2 + 1 + 1 ≤ List.length (putL cso (0 + Int.toNat p * 2 + 0) [int i64 z18]) ∧ tagLeL 0 (putL (putL cso (0 + Int.toNat p * 2 + 0) [int i64 z18]) (0 + Int.toNat p * 2 + 1) [int i64 z20]) = true ∧ K normal [(2, rsl 0 0 13 (some 13)), (5, ref 1 0), (40, agg [lsl nlp0 0 csp0 lenp0 cpp0, lsl nlp1 0 csp1 lenp1 cpp1, lsl nlp2 0 csp2 lenp2 cpp2, lsl nlp3 0 csp3 lenp3 cpp3, lsl nlp4 0 csp4 lenp4 cpp4, lsl nlp5 0 csp5 lenp5 cpp5, lsl nlp6 0 csp6 lenp6 cpp6, lsl nlp7 0 csp7 lenp7 cpp7, lsl nlp8 0 csp8 lenp8 cpp8, lsl nlp9 0 csp9 lenp9 cpp9, lsl nlpa 0 cspa lenpa cppa, lsl nlpb 0 cspb lenpb cppb, lsl nlpc 0 cspc lenpc cppc]), (41, int i64 (wrap i64 (p + (1 : Int))))] ⟨[some (AObj.cells (putL (putL cso (0 + Int.toNat p * 2 + 0) [int i64 z18]) (0 + Int.toNat p * 2 + 1) [int i64 z20]) 42 false), some (AObj.cells [int u8 ec, AV.bool ek, int u32 en, lsl nle1 0 cse1 lene1 cpe1, lsl nle2 0 cse2 lene2 cpe2] 32 false)], 0⟩)) (tagLeL 0 cso = true ∧ K (exit 0) [(2, rsl 0 0 13 (some 13))] ⟨[some (AObj.cells cso 42 false)], 0⟩)) := by kernel_rfl
theorem vc12 (nlb : Bool) (lenb : Nat) (csb : List AV) (cpb : Option Nat) (K : AOut → Prop) : (dataT Tryd.prog env [(12, { loops := [(0, LoopS.inv [2, 5, 40, 41] fun _ σ => Sh.cells fun cs => Sh.one (exit 0, [(2, rsl 0 0 13 (some 13))], ⟨[some (AObj.cells cs 42 false)], 0⟩))], lax := [42] })] 12 [lsl nlb 0 csb lenb cpb] K) =
    (∃ z1 b2 z3 b4 cs5 n6 cp7 b8 cs9 n10 cp11 z12 z13, Sm 15 [lsl nlb 0 csb lenb cpb] ((tup [agg [int u8 z1, AV.bool b2, int u32 z3, lsl b4 0 cs5 n6 cp7, lsl b8 0 cs9 n10 cp11], int i64 z12, int i64 z13])) ∧ br (z13 != (0 : Int)) (K (AOut.ret (tup [nilS, int i64 z12, int i64 z13]))) (∃ z14 b15 cs16 n17 cp18 b19 cs20 n21 cp22 b23 cs24 n25 cp26 b27 cs28 n29 cp30 b31 cs32 n33 cp34 b35 cs36 n37 cp38 b39 cs40 n41 cp42 b43 cs44 n45 cp46 b47 cs48 n49 cp50 b51 cs52 n53 cp54 b55 cs56 n57 cp58 b59 cs60 n61 cp62 b63 cs64 n65 cp66 b67 cs68 n69 cp70 z71, Sm 20 [agg [int u8 z1, AV.bool b2, int u32 z3, lsl b4 0 cs5 n6 cp7, lsl b8 0 cs9 n10 cp11]] ((tup [agg [int i64 z14, lsl b15 0 cs16 n17 cp18, lsl b19 0 cs20 n21 cp22, lsl b23 0 cs24 n25 cp26, lsl b27 0 cs28 n29 cp30, lsl b31 0 cs32 n33 cp34, lsl b35 0 cs36 n37 cp38, lsl b39 0 cs40 n41 cp42, lsl b43 0 cs44 n45 cp46, lsl b47 0 cs48 n49 cp50, lsl b51 0 cs52 n53 cp54, lsl b55 0 cs56 n57 cp58, lsl b59 0 cs60 n61 cp62, lsl b63 0 cs64 n65 cp66], agg [lsl b67 0 cs68 n69 cp70, int i64 z71]])) ∧ br (z71 != (0 : Int)) (∃ z72 z73, Sm 30 [agg [int u8 z1, AV.bool b2, int u32 z3, lsl b4 0 cs5 n6 cp7, lsl b8 0 cs9 n10 cp11], agg [lsl b67 0 cs68 n69 cp70, int i64 z71]] ((tup [int i64 z72, int i64 z73])) ∧ K (AOut.ret (tup [nilS, int i64 z72, int i64 z73]))) (true = true ∧ ∃ cs74, Cd 0 (Code.loop (bodyL Tryd.f12 0)) (frOf 72 [(2, rsl 0 0 13 (some 13)), (5, ref 1 0), (40, agg [lsl b15 0 cs16 n17 cp18, lsl b19 0 cs20 n21 cp22, lsl b23 0 cs24 n25 cp26, lsl b27 0 cs28 n29 cp30, lsl b31 0 cs32 n33 cp34, lsl b35 0 cs36 n37 cp38, lsl b39 0 cs40 n41 cp42, lsl b43 0 cs44 n45 cp46, lsl b47 0 cs48 n49 cp50, lsl b51 0 cs52 n53 cp54, lsl b55 0 cs56 n57 cp58, lsl b59 0 cs60 n61 cp62, lsl b63 0 cs64 n65 cp66]), (41, int i64 0)]) ⟨[some (AObj.cells [int i64 0, int i64 0, int i64 0, int i64 0, int i64 0, int i64 0, int i64 0, int i64 0, int i64 0, int i64 0, int i64 0, int i64 0, int i64 0, int i64 0, int i64 0, int i64 0, int i64 0, int i64 0, int i64 0, int i64 0, int i64 0, int i64 0, int i64 0, int i64 0, int i64 0, int i64 0] 42 false), some (AObj.cells [int u8 z1, AV.bool b2, int u32 z3, lsl b4 0 cs5 n6 cp7, lsl b8 0 cs9 n10 cp11] 32 false)], 0⟩ (exit 0) (frOf 72 [(2, rsl 0 0 13 (some 13))]) ⟨[some (AObj.cells cs74 42 false)], 0⟩ ∧ tagLeL 0 cs74 = true ∧ K (AOut.ret (tup [lsl false 0 cs74 13 (some 13), int i64 0, int i64 0]))))) := by kernel_rfl
end

/-! Spans -/
def spanL (e : El) (path : List Int) : List Int := if path = [] then [0, 0] else [(offM e path).1, SizeE ((atM e path).getD El.zero)]
def spansL (e : El) (paths : List (List Int)) : List Int := paths.flatMap (spanL e)

theorem spanL_len (e : El) (l : List Int) : (spanL e l).length = 2 := by unfold spanL; split <;> rfl
theorem spansL_len (e : El) : ∀ (paths : List (List Int)), (spansL e paths).length = paths.length * 2
  | [] => rfl
  | l :: ls => by
    have := spansL_len e ls
    unfold spansL at this ⊢
    rw [List.flatMap_cons, List.length_append, spanL_len, this, List.length_cons]; omega

theorem atM_tg : ∀ {p : List Int} {e x : El}, e.Tg → atM e p = some x → x.Tg
  | [], e, x, h, hx => by simp only [atM, Option.some.injEq] at hx; exact hx ▸ h
  | i :: r, e, x, h, hx => by
    simp only [atM] at hx
    split at hx
    · cases hx
    · rename_i y hy; exact atM_tg (stepM_tg h hy) hx

theorem zero_tg : El.zero.Tg := by simp [El.zero, El.Tg, El.TgL, TagN]

theorem getD_tg {e : El} {p : List Int} (h : e.Tg) : ((atM e p).getD El.zero).Tg := by
  cases hx : atM e p with
  | none => exact zero_tg
  | some x => exact atM_tg h hx

theorem put_two {A Z : List Int} {x y a s : Int} {i : Nat} (h : A.length = i * 2) :
    putL (putL ((A ++ x :: y :: Z).map (AV.int .i64)) (0 + Int.toNat (i : Int) * 2 + 0) [.int .i64 a]) (0 + Int.toNat (i : Int) * 2 + 1) [.int .i64 s] = (A ++ a :: s :: Z).map (AV.int .i64) := by
  have h1 : (A.map (AV.int .i64)).length = i * 2 := by simp [h]
  have e1 : putL ((A ++ x :: y :: Z).map (AV.int .i64)) (0 + Int.toNat (i : Int) * 2 + 0) [.int .i64 a] = (A ++ a :: y :: Z).map (AV.int .i64) := by
    unfold putL
    rw [Int.toNat_natCast, Nat.zero_add, Nat.add_zero, List.map_append, List.take_left' h1, ← List.drop_drop, List.drop_left' h1]
    simp
  rw [e1]
  unfold putL
  have h2 : ((A ++ [a]).map (AV.int .i64)).length = i * 2 + 1 := by simp [h]
  have e2 : (A ++ a :: y :: Z).map (AV.int .i64) = (A ++ [a]).map (AV.int .i64) ++ (y :: Z).map (AV.int .i64) := by simp
  rw [Int.toNat_natCast, Nat.zero_add, e2, List.take_left' h2, ← List.drop_drop, List.drop_left' h2]
  simp

theorem loop12 {e : El} {cells : List AV} (h : ElA e cells) (hb : e.Bd) (hT : e.Tg) {paths : List (List Int)} (hpl : paths.length = 13) (hsm : ∀ l ∈ paths, l.length ≤ 2) :
    ∀ (p : Nat) (kvs : List (Nat × AV)) (σ : St), (p ≤ 13 ∧ kvs = [(2, .rsl 0 0 13 (some 13)), (5, .ref 1 0), (40, .agg (paths.map pA)), (41, .int .i64 p)] ∧
        σ = ⟨[some (.cells ((spansL e (paths.take p) ++ List.replicate (26 - p * 2) 0).map (AV.int .i64)) 42 false), some (.cells cells 32 false)], 0⟩) →
      ∃ ae kvs' σ', (ae = .exit 0 ∧ kvs' = [(2, .rsl 0 0 13 (some 13))] ∧ σ' = ⟨[some (.cells ((spansL e paths).map (AV.int .i64)) 42 false)], 0⟩) ∧ Cd 0 (.loop (bodyL Tryd.f12 0)) (frOf 72 kvs) σ ae (frOf 72 kvs') σ' := by
  have h0 := h
  obtain ⟨_, _, _, _, _, _, _, _, _, _, _, rfl⟩ := h.cells
  match paths, hpl with
  | [q0, q1, q2, q3, q4, q5, q6, q7, q8, q9, qa, qb, qc], hpl =>
  refine loop_by (tb := tb_r12) (f := 12) (c := bodyL Tryd.f12 0) (k := 0) (N := 72) (keepN := [2, 5, 40, 41]) (keepX := [2]) env_ok _ _ (fun p => 13 - p) ?_
  rintro p kvs σ ⟨hp, rfl, rfl⟩
  simp only [List.map_cons, List.map_nil]
  rw [r12]
  generalize hq : [q0, q1, q2, q3, q4, q5, q6, q7, q8, q9, qa, qb, qc] = paths at hsm hpl ⊢
  have hmq : [pA q0, pA q1, pA q2, pA q3, pA q4, pA q5, pA q6, pA q7, pA q8, pA q9, pA qa, pA qb, pA qc] = paths.map pA := by rw [← hq]; rfl
  refine br_i (fun hlt => ?_) (fun hge => ?_)
  · have hlt : p < 13 := by have := of_decide_eq_true hlt; omega
    have hw : IntKind.i64.wrap ((p : Int) + 1) = ((p + 1 : Nat) : Int) := by rw [wrap_small (by omega) (by omega)]; simp
    have hpl2 : p < paths.length := by omega
    have hdrop : List.drop (Int.toNat (p : Int) * 1) [pA q0, pA q1, pA q2, pA q3, pA q4, pA q5, pA q6, pA q7, pA q8, pA q9, pA qa, pA qb, pA qc] = pA (paths[p]) :: (paths.map pA).drop (p + 1) := by
      rw [hmq, Int.toNat_natCast, Nat.mul_one, List.drop_eq_getElem_cons (by simpa using hpl2), List.getElem_map]
    have hsn : ∀ a s : Int, spanL e paths[p] = [a, s] → spansL e (paths.take (p + 1)) ++ List.replicate (26 - (p + 1) * 2) 0 = spansL e (paths.take p) ++ a :: s :: List.replicate (26 - (p + 1) * 2) 0 := by
      intro a s has
      unfold spansL
      rw [List.take_succ_eq_append_getElem hpl2, List.flatMap_append, List.flatMap_cons, List.flatMap_nil, has]
      simp
    have hrp : List.replicate (26 - p * 2) (0 : Int) = 0 :: 0 :: List.replicate (26 - (p + 1) * 2) 0 := by
      rw [show 26 - p * 2 = (26 - (p + 1) * 2) + 1 + 1 by omega]; rfl
    have hsl : (spansL e (paths.take p)).length = p * 2 := by rw [spansL_len, List.length_take]; omega
    have hl2 := hsm _ (List.getElem_mem (l := paths) (n := p) hpl2)
    have htl : ((spansL e (paths.take p) ++ List.replicate (26 - p * 2) (0 : Int)).map (AV.int .i64)).length = 26 := by simp [hsl]; omega
    rw [hw]
    refine ⟨by omega, by omega, _, _, _, _, _, hdrop, br_i (fun h1 => ⟨tagLeL_map _, ?_⟩) (fun h1 => ?_)⟩
    · have h1 : paths[p] = [] := List.length_eq_zero_iff.1 (by have h : (paths[p].length : Int) = 0 := (by simpa using h1); omega)
      refine ⟨p + 1, by omega, ⟨by omega, rfl, ?_⟩, fun ae kvs σ h => h⟩
      rw [hsn 0 0 (by unfold spanL; rw [if_pos h1]), hrp]
    · have h1 : paths[p] ≠ [] := by intro h; rw [h] at h1; simp at h1
      obtain ⟨c31, hc31, h31⟩ := sum31 h0 hb (pA_sx (l := paths[p]) (by omega)).si
      have h32 := sum32 h0 hb hT (pA_sx (l := paths[p]) (by omega)).si
      have h33 := sum33 (getD_tg hT) hc31
      have hc0 := hc31
      obtain ⟨_, _, _, _, _, _, _, _, _, _, _, rfl⟩ := hc31.cells
      have hput := put_two (A := spansL e (paths.take p)) (Z := List.replicate (26 - (p + 1) * 2) 0) (x := 0) (y := 0) (a := (offM e paths[p]).1) (s := SizeE ((atM e paths[p]).getD El.zero)) (i := p) hsl
      rw [← hrp, ← hsn _ _ (by unfold spanL; rw [if_neg h1])] at hput
      refine ⟨_, _, _, _, _, _, _, _, _, _, _, _, h31, _, _, h32, by omega, by omega, by rw [htl, Int.toNat_natCast]; omega, _, h33, by omega, by omega, ?_, ?_, ?_⟩
      · rw [putL_len (by rw [htl, Int.toNat_natCast]; simp; omega), htl, Int.toNat_natCast]; omega
      · rw [hput]; exact tagLeL_map _
      · exact ⟨p + 1, by omega, ⟨by omega, rfl, by rw [hput]⟩, fun ae kvs σ h => h⟩
  · have hge : p = 13 := by have := of_decide_eq_false hge; omega
    subst hge
    rw [List.take_of_length_le (by omega)]
    simp only [Nat.reduceMul, Nat.sub_self, List.replicate_zero, List.append_nil]
    exact ⟨tagLeL_map _, trivial, trivial, trivial⟩

def SpV (b : List Int) (v : AV) : Prop := if (getM b).2.2 ≠ 0 then v = .tup [nilS, .int .i64 (getM b).2.1, .int .i64 (getM b).2.2] else match ofM (getM b).1 with
  | .bad p err => v = .tup [nilS, .int .i64 (repM (getM b).1 p err).1, .int .i64 (repM (getM b).1 p err).2]
  | .good _ ks => v = .tup [.lsl false 0 ((spansL (getM b).1 (pathsOf ks)).map (AV.int .i64)) 13 (some 13), .int .i64 0, .int .i64 0]

theorem sum12 {b : List Int} (hby : Byt b) (hT : (getM b).1.Tg) {a : AV} (h : SI .u8 b a) : ∃ v, SpV b v ∧ Sm 12 [a] v := by
  obtain ⟨hbd, cells, hel, h15⟩ := sum15 hby h
  obtain ⟨nl, ex, cp, rfl, hc, hl, hn⟩ := h
  have hel0 := hel
  obtain ⟨_, _, _, _, _, _, _, _, _, _, _, rfl⟩ := hel.cells
  refine sum_ex _ (vc12 ..) ?_
  refine ⟨_, _, _, _, _, _, _, _, _, _, _, _, _, h15, br_i (fun h1 => ?_) (fun h1 => ?_)⟩
  · have h1 : (getM b).2.2 ≠ 0 := by simpa using h1
    exact ⟨_, rfl, by unfold SpV; rw [if_pos h1]⟩
  have h1 : ¬ (getM b).2.2 ≠ 0 := by simpa using h1
  obtain ⟨v20, hv20, h20⟩ := sum20 hel0
  match hof : ofM (getM b).1 with
  | .bad p err =>
    rw [hof] at hv20
    obtain ⟨herr, -, b2, hb2, rfl⟩ := hv20
    have h30 := sum30 hel0 hbd hT hb2
    obtain ⟨_, _, _, rfl, -⟩ := hb2
    exact ⟨_, _, _, _, _, _, _, _, _, _, _, _, _, _, _, _, _, _, _, _, _, _, _, _, _, _, _, _, _, _, _, _, _, _, _, _, _, _, _, _, _, _, _, _, _, _, _, _, _, _, _, _, _, _, _, _, _, _, h20, br_t (by simpa using herr) ⟨_, _, h30, _, rfl, by unfold SpV; rw [if_neg h1, hof]⟩⟩
  | .good v ks =>
    obtain ⟨tbs, s1, s2, hs, hk, hr, hcons⟩ := ofM_good hof
    rw [hof] at hv20
    obtain ⟨-, rfl⟩ := hv20
    have hpl : (pathsOf ks).length = 13 := by rw [pathsOf_len]; omega
    obtain ⟨ae, kvs', σ', ⟨rfl, rfl, rfl⟩, hcd⟩ := loop12 hel0 hbd hT hpl (fun l hl => by
        obtain ⟨i, hi, rfl⟩ := List.getElem_of_mem hl
        exact pathsOf_small hi) 0 _ _ ⟨by omega, rfl, rfl⟩
    match ks, hk with
    | [k1, k2, k3, k4, k5, k6, k7, k8, k9, k10], hk =>
    rw [skL_eq] at h20
    exact ⟨_, _, _, _, _, _, _, _, _, _, _, _, _, _, _, _, _, _, _, _, _, _, _, _, _, _, _, _, _, _, _, _, _, _, _, _, _, _, _, _, _, _, _, _, _, _, _, _, _, _, _, _, _, _, _, _, _, _, h20, br_f rfl ⟨rfl, _, hcd, tagLeL_map _, _, rfl, by unfold SpV; rw [if_neg h1, hof]⟩⟩

end Go.Vid
