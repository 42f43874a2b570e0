/-
The parts of a certificate, from plain data.
-/
import Derived.Test.YtnjlocjikfbgdaaDoorXL
set_option linter.all false
namespace Go.Vid
open Go.Proofs
set_option maxRecDepth 100000
section
open AExit AOut AV IntKind
theorem vc10 (w : Int) (nla nlb nlc nld nle nlf nlg nlh nli nlj nlk nll nlm : Bool) (lena lenb lenc lend lene lenf leng lenh leni lenj lenk lenl lenm : Nat) (csa csb csc csd cse csf csg csh csi csj csk csl csm : List AV) (cpa cpb cpc cpd cpe cpf cpg cph cpi cpj cpk cpl cpm : Option Nat) (K : AOut → Prop) : (dataT Tryd.prog env [(10, { ops := [(7, [(4, Kd.b)]), (8, [(4, Kd.b)]), (9, [(4, Kd.b)])], loops := [(0, LoopS.unroll 14)] })] 10 [agg [int u8 w, lsl nla 0 csa lena cpa, lsl nlb 0 csb lenb cpb, lsl nlc 0 csc lenc cpc, lsl nld 0 csd lend cpd, lsl nle 0 cse lene cpe, lsl nlf 0 csf lenf cpf, lsl nlg 0 csg leng cpg, lsl nlh 0 csh lenh cph, lsl nli 0 csi leni cpi, lsl nlj 0 csj lenj cpj, lsl nlk 0 csk lenk cpk, lsl nll 0 csl lenl cpl, lsl nlm 0 csm lenm cpm]] K) =
    (br (decide (Int.tmod w (4 : Int) > (0 : Int))) (br (decide (Int.tmod w (4 : Int) > (0 : Int))) (br (decide (Int.tmod w (4 : Int) > (1 : Int))) (K (AOut.ret (agg [AV.bool true, AV.bool (decide (Int.tmod w (4 : Int) > (0 : Int))), AV.bool true, AV.bool true, AV.bool true, AV.bool true, AV.bool true, AV.bool true, AV.bool (Int.tmod (wrap u8 (Int.tdiv w (4 : Int))) (2 : Int) == (1 : Int)), AV.bool (Int.tmod (wrap u8 (Int.tdiv w (8 : Int))) (2 : Int) == (1 : Int)), AV.bool (Int.tmod (wrap u8 (Int.tdiv w (16 : Int))) (2 : Int) == (1 : Int)), AV.bool true, AV.bool true]))) (K (AOut.ret (agg [AV.bool true, AV.bool (decide (Int.tmod w (4 : Int) > (0 : Int))), AV.bool true, AV.bool true, AV.bool true, AV.bool true, AV.bool true, AV.bool true, AV.bool (Int.tmod (wrap u8 (Int.tdiv w (4 : Int))) (2 : Int) == (1 : Int)), AV.bool (Int.tmod (wrap u8 (Int.tdiv w (8 : Int))) (2 : Int) == (1 : Int)), AV.bool false, AV.bool true, AV.bool true])))) (br (decide (Int.tmod w (4 : Int) > (1 : Int))) (K (AOut.ret (agg [AV.bool true, AV.bool (decide (Int.tmod w (4 : Int) > (0 : Int))), AV.bool true, AV.bool true, AV.bool true, AV.bool true, AV.bool true, AV.bool true, AV.bool (Int.tmod (wrap u8 (Int.tdiv w (4 : Int))) (2 : Int) == (1 : Int)), AV.bool false, AV.bool (Int.tmod (wrap u8 (Int.tdiv w (16 : Int))) (2 : Int) == (1 : Int)), AV.bool true, AV.bool true]))) (K (AOut.ret (agg [AV.bool true, AV.bool (decide (Int.tmod w (4 : Int) > (0 : Int))), AV.bool true, AV.bool true, AV.bool true, AV.bool true, AV.bool true, AV.bool true, AV.bool (Int.tmod (wrap u8 (Int.tdiv w (4 : Int))) (2 : Int) == (1 : Int)), AV.bool false, AV.bool false, AV.bool true, AV.bool true]))))) (br (decide (Int.tmod w (4 : Int) > (0 : Int))) (br (decide (Int.tmod w (4 : Int) > (1 : Int))) (K (AOut.ret (agg [AV.bool true, AV.bool (decide (Int.tmod w (4 : Int) > (0 : Int))), AV.bool true, AV.bool true, AV.bool true, AV.bool true, AV.bool true, AV.bool true, AV.bool false, AV.bool (Int.tmod (wrap u8 (Int.tdiv w (8 : Int))) (2 : Int) == (1 : Int)), AV.bool (Int.tmod (wrap u8 (Int.tdiv w (16 : Int))) (2 : Int) == (1 : Int)), AV.bool true, AV.bool true]))) (K (AOut.ret (agg [AV.bool true, AV.bool (decide (Int.tmod w (4 : Int) > (0 : Int))), AV.bool true, AV.bool true, AV.bool true, AV.bool true, AV.bool true, AV.bool true, AV.bool false, AV.bool (Int.tmod (wrap u8 (Int.tdiv w (8 : Int))) (2 : Int) == (1 : Int)), AV.bool false, AV.bool true, AV.bool true])))) (br (decide (Int.tmod w (4 : Int) > (1 : Int))) (K (AOut.ret (agg [AV.bool true, AV.bool (decide (Int.tmod w (4 : Int) > (0 : Int))), AV.bool true, AV.bool true, AV.bool true, AV.bool true, AV.bool true, AV.bool true, AV.bool false, AV.bool false, AV.bool (Int.tmod (wrap u8 (Int.tdiv w (16 : Int))) (2 : Int) == (1 : Int)), AV.bool true, AV.bool true]))) (K (AOut.ret (agg [AV.bool true, AV.bool (decide (Int.tmod w (4 : Int) > (0 : Int))), AV.bool true, AV.bool true, AV.bool true, AV.bool true, AV.bool true, AV.bool true, AV.bool false, AV.bool false, AV.bool false, AV.bool true, AV.bool true])))))) := by kernel_rfl
abbrev tb_r13n : List (FuncId × Sc) := [(13, { ops := [(17, [(3, Kd.w), (4, Kd.w), (7, Kd.b)]), (19, [(4, Kd.w), (5, Kd.w), (7, Kd.w), (10, Kd.w)])], lax := [25, 1005] })]
theorem r13n (p x zc zn ec en : Int) (zk nlz1 nlz2 ek : Bool) (lenz1 lenz2 : Nat) (ck csz1 csz2 : List AV) (cpz1 cpz2 : Option Nat) (K : AExit → List (Nat × AV) → St → Prop) : (roundT Tryd.prog env tb_r13n 13 (bodyL Tryd.f13 1) 0 71 [1, 2, 4, 5, 8] [4, 5] [(1, int i64 p), (2, ref 0 0), (4, ref 1 0), (5, ref 2 0), (8, int i64 x)] ⟨[some (AObj.cells ck 25 false), some (AObj.cells [int u8 zc, AV.bool zk, int u32 zn, lsl nlz1 0 csz1 lenz1 cpz1, lsl nlz2 0 csz2 lenz2 cpz2] 32 false), some (AObj.cells [int u8 ec, AV.bool ek, int u32 en, nilS, nilS] 32 false)], 0⟩ K) =
    ((0 : Int) ≤ p ∧ p < (13 : Int) ∧ ∃ b1 cs2 n3 cp4 cs5, List.drop (1 + Int.toNat p * 1) ck = lsl b1 0 cs2 n3 cp4 :: cs5 ∧ br (decide (x < (↑n3 : Int))) (br (decide (x < (30 : Int))) ((0 : Int) ≤ p ∧ p < (13 : Int) ∧ ∃ b6 cs7 n8 cp9 cs10, List.drop (1 + Int.toNat p * 1) ck = lsl b6 0 cs7 n8 cp9 :: cs10 ∧ b6 = false ∧ (0 : Int) ≤ x ∧ x < (↑n8 : Int) ∧ ∃ z11 cs12, List.drop (Int.toNat x * 1) cs7 = int u8 z11 :: cs12 ∧ 1 ≤ 1 ∧ (true = true ∨ some 0 = some 0) ∧ 0 ≤ 0 ∧ 1 ≤ 70368744177664 ∧ 1 ≤ 70368744177664 ∧ tagLeL 0 ck = true ∧ true = true ∧ K normal [(1, int i64 p), (2, ref 0 0), (4, ref 1 0), (5, ref 2 0), (8, int i64 (wrap i64 (x + (1 : Int))))] ⟨[some (AObj.cells ck 25 false), some (AObj.cells [int u8 zc, AV.bool zk, int u32 zn, lsl nlz1 0 csz1 lenz1 cpz1, lsl nlz2 0 csz2 lenz2 cpz2] 32 false), some (AObj.cells [int u8 ec, AV.bool ek, int u32 en, rsl 3 0 1 none, nilS] 32 false), some (AObj.cells [int u8 z11] 5 true)], 0⟩) (K (exit 1) [(4, ref 0 0), (5, ref 1 0)] ⟨[some (AObj.cells [int u8 zc, AV.bool zk, int u32 zn, lsl nlz1 0 csz1 lenz1 cpz1, lsl nlz2 0 csz2 lenz2 cpz2] 32 false), some (AObj.cells [int u8 ec, AV.bool ek, int u32 en, nilS, nilS] 32 false)], 0⟩)) (K (exit 1) [(4, ref 0 0), (5, ref 1 0)] ⟨[some (AObj.cells [int u8 zc, AV.bool zk, int u32 zn, lsl nlz1 0 csz1 lenz1 cpz1, lsl nlz2 0 csz2 lenz2 cpz2] 32 false), some (AObj.cells [int u8 ec, AV.bool ek, int u32 en, nilS, nilS] 32 false)], 0⟩)) := by kernel_rfl
abbrev tb_r13 : List (FuncId × Sc) := [(13, { ops := [(17, [(3, Kd.w), (4, Kd.w), (7, Kd.b)]), (19, [(4, Kd.w), (5, Kd.w), (7, Kd.w), (10, Kd.w)])], lax := [25, 1005] })]
theorem r13 (p x zc zn ec en : Int) (zk nlz1 nlz2 ek : Bool) (lenz1 lenz2 m : Nat) (ck csz1 csz2 cso : List AV) (cpz1 cpz2 : Option Nat) (K : AExit → List (Nat × AV) → St → Prop) : (roundT Tryd.prog env tb_r13 13 (bodyL Tryd.f13 1) 0 71 [1, 2, 4, 5, 8] [4, 5] [(1, int i64 p), (2, ref 0 0), (4, ref 1 0), (5, ref 2 0), (8, int i64 x)] ⟨[some (AObj.cells ck 25 false), some (AObj.cells [int u8 zc, AV.bool zk, int u32 zn, lsl nlz1 0 csz1 lenz1 cpz1, lsl nlz2 0 csz2 lenz2 cpz2] 32 false), some (AObj.cells [int u8 ec, AV.bool ek, int u32 en, rsl 3 0 m none, nilS] 32 false), some (AObj.cells cso 5 true)], 0⟩ K) =
    ((0 : Int) ≤ p ∧ p < (13 : Int) ∧ ∃ b1 cs2 n3 cp4 cs5, List.drop (1 + Int.toNat p * 1) ck = lsl b1 0 cs2 n3 cp4 :: cs5 ∧ br (decide (x < (↑n3 : Int))) (br (decide (x < (30 : Int))) ((0 : Int) ≤ p ∧ p < (13 : Int) ∧ ∃ b6 cs7 n8 cp9 cs10, List.drop (1 + Int.toNat p * 1) ck = lsl b6 0 cs7 n8 cp9 :: cs10 ∧ b6 = false ∧ (0 : Int) ≤ x ∧ x < (↑n8 : Int) ∧ ∃ z11 cs12, List.drop (Int.toNat x * 1) cs7 = int u8 z11 :: cs12 ∧ 1 ≤ 1 ∧ List.length cso = m * 1 ∧ (m + 1) * 1 ≤ 70368744177664 ∧ m + 1 ≤ 70368744177664 ∧ tagLeL 0 ck = true ∧ tagLeL 0 (cso ++ [int u8 z11]) = true ∧ K normal [(1, int i64 p), (2, ref 0 0), (4, ref 1 0), (5, ref 2 0), (8, int i64 (wrap i64 (x + (1 : Int))))] ⟨[some (AObj.cells ck 25 false), some (AObj.cells [int u8 zc, AV.bool zk, int u32 zn, lsl nlz1 0 csz1 lenz1 cpz1, lsl nlz2 0 csz2 lenz2 cpz2] 32 false), some (AObj.cells [int u8 ec, AV.bool ek, int u32 en, rsl 3 0 (m + 1) none, nilS] 32 false), some (AObj.cells (cso ++ [int u8 z11]) 5 true)], 0⟩) (tagLeL 0 cso = true ∧ K (exit 1) [(4, ref 0 0), (5, ref 1 0)] ⟨[some (AObj.cells [int u8 zc, AV.bool zk, int u32 zn, lsl nlz1 0 csz1 lenz1 cpz1, lsl nlz2 0 csz2 lenz2 cpz2] 32 false), some (AObj.cells [int u8 ec, AV.bool ek, int u32 en, rsl 2 0 m none, nilS] 32 false), some (AObj.cells cso 5 true)], 0⟩)) (tagLeL 0 cso = true ∧ K (exit 1) [(4, ref 0 0), (5, ref 1 0)] ⟨[some (AObj.cells [int u8 zc, AV.bool zk, int u32 zn, lsl nlz1 0 csz1 lenz1 cpz1, lsl nlz2 0 csz2 lenz2 cpz2] 32 false), some (AObj.cells [int u8 ec, AV.bool ek, int u32 en, rsl 2 0 m none, nilS] 32 false), some (AObj.cells cso 5 true)], 0⟩)) := by kernel_rfl
theorem vc13 (w p : Int) (nla nlb nlc nld nle nlf nlg nlh nli nlj nlk nll nlm : Bool) (lena lenb lenc lend lene lenf leng lenh leni lenj lenk lenl lenm : Nat) (csa csb csc csd cse csf csg csh csi csj csk csl csm : List AV) (cpa cpb cpc cpd cpe cpf cpg cph cpi cpj cpk cpl cpm : Option Nat) (K : AOut → Prop) : (dataT Tryd.prog env [(13, { ops := [(2, [(2, Kd.w), (3, Kd.w)])], loops := [(1, LoopS.inv [1, 2, 4, 5, 8] fun vs σ => Sh.or (Sh.one (exit 1, [(4, ref 0 0), (5, ref 1 0)], ⟨[List.getD (St.objs σ) 1 none, List.getD (St.objs σ) 2 none], 0⟩)) (Sh.nat fun m => Sh.cells fun cs => Sh.one (exit 1, [(4, ref 0 0), (5, ref 1 0)], ⟨[List.getD (St.objs σ) 1 none, ebyt (List.getD (St.objs σ) 2 none) (rsl 2 0 m none), some (AObj.cells cs 5 true)], 0⟩)))], lax := [1005] })] 13 [agg [int u8 w, lsl nla 0 csa lena cpa, lsl nlb 0 csb lenb cpb, lsl nlc 0 csc lenc cpc, lsl nld 0 csd lend cpd, lsl nle 0 cse lene cpe, lsl nlf 0 csf lenf cpf, lsl nlg 0 csg leng cpg, lsl nlh 0 csh lenh cph, lsl nli 0 csi leni cpi, lsl nlj 0 csj lenj cpj, lsl nlk 0 csk lenk cpk, lsl nll 0 csl lenl cpl, lsl nlm 0 csm lenm cpm], int i64 p] K) =
    (∃ z1 b2 z3, Sm 28 [int u8 (wrap u8 p)] ((agg [int u8 z1, AV.bool b2, int u32 z3])) ∧ (0 : Int) ≤ p ∧ p < (13 : Int) ∧ ∃ b4 cs5 n6 cp7 cs8, List.drop (1 + Int.toNat p * 1) [int u8 w, lsl nla 0 csa lena cpa, lsl nlb 0 csb lenb cpb, lsl nlc 0 csc lenc cpc, lsl nld 0 csd lend cpd, lsl nle 0 cse lene cpe, lsl nlf 0 csf lenf cpf, lsl nlg 0 csg leng cpg, lsl nlh 0 csh lenh cph, lsl nli 0 csi leni cpi, lsl nlj 0 csj lenj cpj, lsl nlk 0 csk lenk cpk, lsl nll 0 csl lenl cpl, lsl nlm 0 csm lenm cpm] = lsl b4 0 cs5 n6 cp7 :: cs8 ∧ ∃ z9 b10 z11 b12 cs13 n14 cp15 b16 cs17 n18 cp19, Sm 34 [agg [lsl b4 0 cs5 n6 cp7]] ((agg [int u8 z9, AV.bool b10, int u32 z11, lsl b12 0 cs13 n14 cp15, lsl b16 0 cs17 n18 cp19])) ∧ br (p == (1 : Int)) (br (decide (Int.tmod w (4 : Int) > (1 : Int))) (K (AOut.ret (agg [int u8 z1, AV.bool b2, int u32 z3, nilS, lsl false 0 [int u8 0, AV.bool false, int u32 2, lsl false 0 [int u8 2] 1 (some 1), nilS] 1 (some 1)]))) (K (AOut.ret (agg [int u8 z1, AV.bool b2, int u32 z3, nilS, lsl false 0 [int u8 0, AV.bool false, int u32 2, lsl false 0 [int u8 1] 1 (some 1), nilS] 1 (some 1)])))) (br (p == (10 : Int)) (K (AOut.ret (agg [int u8 z1, AV.bool b2, int u32 z3, nilS, lsl false 0 [int u8 z9, AV.bool b10, int u32 z11, lsl b12 0 cs13 n14 cp15, lsl b16 0 cs17 n18 cp19] 1 (some 1)]))) (br (p == (2 : Int)) (br (p == (2 : Int)) (Cd 0 (Code.loop (bodyL Tryd.f13 1)) (frOf 71 [(1, int i64 p), (2, ref 0 0), (4, ref 1 0), (5, ref 2 0), (8, int i64 0)]) ⟨[some (AObj.cells [int u8 w, lsl nla 0 csa lena cpa, lsl nlb 0 csb lenb cpb, lsl nlc 0 csc lenc cpc, lsl nld 0 csd lend cpd, lsl nle 0 cse lene cpe, lsl nlf 0 csf lenf cpf, lsl nlg 0 csg leng cpg, lsl nlh 0 csh lenh cph, lsl nli 0 csi leni cpi, lsl nlj 0 csj lenj cpj, lsl nlk 0 csk lenk cpk, lsl nll 0 csl lenl cpl, lsl nlm 0 csm lenm cpm] 25 false), some (AObj.cells [int u8 0, AV.bool false, int u32 0, nilS, nilS] 32 false), some (AObj.cells [int u8 z1, AV.bool b2, int u32 z3, nilS, nilS] 32 false)], 0⟩ (exit 1) (frOf 71 [(4, ref 0 0), (5, ref 1 0)]) ⟨[some (AObj.cells [int u8 0, AV.bool false, int u32 0, nilS, nilS] 32 false), some (AObj.cells [int u8 z1, AV.bool b2, int u32 z3, nilS, nilS] 32 false)], 0⟩ ∧ K (AOut.ret (agg [int u8 z1, AV.bool b2, int u32 z3, nilS, nilS])) ∨ ∃ n20 cs21, Cd 0 (Code.loop (bodyL Tryd.f13 1)) (frOf 71 [(1, int i64 p), (2, ref 0 0), (4, ref 1 0), (5, ref 2 0), (8, int i64 0)]) ⟨[some (AObj.cells [int u8 w, lsl nla 0 csa lena cpa, lsl nlb 0 csb lenb cpb, lsl nlc 0 csc lenc cpc, lsl nld 0 csd lend cpd, lsl nle 0 cse lene cpe, lsl nlf 0 csf lenf cpf, lsl nlg 0 csg leng cpg, lsl nlh 0 csh lenh cph, lsl nli 0 csi leni cpi, lsl nlj 0 csj lenj cpj, lsl nlk 0 csk lenk cpk, lsl nll 0 csl lenl cpl, lsl nlm 0 csm lenm cpm] 25 false), some (AObj.cells [int u8 0, AV.bool false, int u32 0, nilS, nilS] 32 false), some (AObj.cells [int u8 z1, AV.bool b2, int u32 z3, nilS, nilS] 32 false)], 0⟩ (exit 1) (frOf 71 [(4, ref 0 0), (5, ref 1 0)]) ⟨[some (AObj.cells [int u8 0, AV.bool false, int u32 0, nilS, nilS] 32 false), some (AObj.cells [int u8 z1, AV.bool b2, int u32 z3, rsl 2 0 n20 none, nilS] 32 false), some (AObj.cells cs21 5 true)], 0⟩ ∧ tagLeL 0 cs21 = true ∧ K (AOut.ret (agg [int u8 z1, AV.bool b2, int u32 z3, lsl false 0 cs21 n20 none, nilS]))) (K (AOut.ret (agg [int u8 z1, AV.bool b2, int u32 z3, nilS, lsl b16 0 cs17 n18 cp19])))) (br (p == (8 : Int)) (br (p == (8 : Int)) (Cd 0 (Code.loop (bodyL Tryd.f13 1)) (frOf 71 [(1, int i64 p), (2, ref 0 0), (4, ref 1 0), (5, ref 2 0), (8, int i64 0)]) ⟨[some (AObj.cells [int u8 w, lsl nla 0 csa lena cpa, lsl nlb 0 csb lenb cpb, lsl nlc 0 csc lenc cpc, lsl nld 0 csd lend cpd, lsl nle 0 cse lene cpe, lsl nlf 0 csf lenf cpf, lsl nlg 0 csg leng cpg, lsl nlh 0 csh lenh cph, lsl nli 0 csi leni cpi, lsl nlj 0 csj lenj cpj, lsl nlk 0 csk lenk cpk, lsl nll 0 csl lenl cpl, lsl nlm 0 csm lenm cpm] 25 false), some (AObj.cells [int u8 0, AV.bool false, int u32 0, nilS, nilS] 32 false), some (AObj.cells [int u8 z1, AV.bool b2, int u32 z3, nilS, nilS] 32 false)], 0⟩ (exit 1) (frOf 71 [(4, ref 0 0), (5, ref 1 0)]) ⟨[some (AObj.cells [int u8 0, AV.bool false, int u32 0, nilS, nilS] 32 false), some (AObj.cells [int u8 z1, AV.bool b2, int u32 z3, nilS, nilS] 32 false)], 0⟩ ∧ K (AOut.ret (agg [int u8 z1, AV.bool b2, int u32 z3, nilS, nilS])) ∨ ∃ n22 cs23, Cd 0 (Code.loop (bodyL Tryd.f13 1)) (frOf 71 [(1, int i64 p), (2, ref 0 0), (4, ref 1 0), (5, ref 2 0), (8, int i64 0)]) ⟨[some (AObj.cells [int u8 w, lsl nla 0 csa lena cpa, lsl nlb 0 csb lenb cpb, lsl nlc 0 csc lenc cpc, lsl nld 0 csd lend cpd, lsl nle 0 cse lene cpe, lsl nlf 0 csf lenf cpf, lsl nlg 0 csg leng cpg, lsl nlh 0 csh lenh cph, lsl nli 0 csi leni cpi, lsl nlj 0 csj lenj cpj, lsl nlk 0 csk lenk cpk, lsl nll 0 csl lenl cpl, lsl nlm 0 csm lenm cpm] 25 false), some (AObj.cells [int u8 0, AV.bool false, int u32 0, nilS, nilS] 32 false), some (AObj.cells [int u8 z1, AV.bool b2, int u32 z3, nilS, nilS] 32 false)], 0⟩ (exit 1) (frOf 71 [(4, ref 0 0), (5, ref 1 0)]) ⟨[some (AObj.cells [int u8 0, AV.bool false, int u32 0, nilS, nilS] 32 false), some (AObj.cells [int u8 z1, AV.bool b2, int u32 z3, rsl 2 0 n22 none, nilS] 32 false), some (AObj.cells cs23 5 true)], 0⟩ ∧ tagLeL 0 cs23 = true ∧ K (AOut.ret (agg [int u8 z1, AV.bool b2, int u32 z3, lsl false 0 cs23 n22 none, nilS]))) (K (AOut.ret (agg [int u8 z1, AV.bool b2, int u32 z3, nilS, lsl b16 0 cs17 n18 cp19])))) (br (p == (9 : Int)) (br (p == (9 : Int)) (Cd 0 (Code.loop (bodyL Tryd.f13 1)) (frOf 71 [(1, int i64 p), (2, ref 0 0), (4, ref 1 0), (5, ref 2 0), (8, int i64 0)]) ⟨[some (AObj.cells [int u8 w, lsl nla 0 csa lena cpa, lsl nlb 0 csb lenb cpb, lsl nlc 0 csc lenc cpc, lsl nld 0 csd lend cpd, lsl nle 0 cse lene cpe, lsl nlf 0 csf lenf cpf, lsl nlg 0 csg leng cpg, lsl nlh 0 csh lenh cph, lsl nli 0 csi leni cpi, lsl nlj 0 csj lenj cpj, lsl nlk 0 csk lenk cpk, lsl nll 0 csl lenl cpl, lsl nlm 0 csm lenm cpm] 25 false), some (AObj.cells [int u8 0, AV.bool false, int u32 0, nilS, nilS] 32 false), some (AObj.cells [int u8 z1, AV.bool b2, int u32 z3, nilS, nilS] 32 false)], 0⟩ (exit 1) (frOf 71 [(4, ref 0 0), (5, ref 1 0)]) ⟨[some (AObj.cells [int u8 0, AV.bool false, int u32 0, nilS, nilS] 32 false), some (AObj.cells [int u8 z1, AV.bool b2, int u32 z3, nilS, nilS] 32 false)], 0⟩ ∧ K (AOut.ret (agg [int u8 z1, AV.bool b2, int u32 z3, nilS, nilS])) ∨ ∃ n24 cs25, Cd 0 (Code.loop (bodyL Tryd.f13 1)) (frOf 71 [(1, int i64 p), (2, ref 0 0), (4, ref 1 0), (5, ref 2 0), (8, int i64 0)]) ⟨[some (AObj.cells [int u8 w, lsl nla 0 csa lena cpa, lsl nlb 0 csb lenb cpb, lsl nlc 0 csc lenc cpc, lsl nld 0 csd lend cpd, lsl nle 0 cse lene cpe, lsl nlf 0 csf lenf cpf, lsl nlg 0 csg leng cpg, lsl nlh 0 csh lenh cph, lsl nli 0 csi leni cpi, lsl nlj 0 csj lenj cpj, lsl nlk 0 csk lenk cpk, lsl nll 0 csl lenl cpl, lsl nlm 0 csm lenm cpm] 25 false), some (AObj.cells [int u8 0, AV.bool false, int u32 0, nilS, nilS] 32 false), some (AObj.cells [int u8 z1, AV.bool b2, int u32 z3, nilS, nilS] 32 false)], 0⟩ (exit 1) (frOf 71 [(4, ref 0 0), (5, ref 1 0)]) ⟨[some (AObj.cells [int u8 0, AV.bool false, int u32 0, nilS, nilS] 32 false), some (AObj.cells [int u8 z1, AV.bool b2, int u32 z3, rsl 2 0 n24 none, nilS] 32 false), some (AObj.cells cs25 5 true)], 0⟩ ∧ tagLeL 0 cs25 = true ∧ K (AOut.ret (agg [int u8 z1, AV.bool b2, int u32 z3, lsl false 0 cs25 n24 none, nilS]))) (K (AOut.ret (agg [int u8 z1, AV.bool b2, int u32 z3, nilS, lsl b16 0 cs17 n18 cp19])))) (br (p == (12 : Int)) (Cd 0 (Code.loop (bodyL Tryd.f13 1)) (frOf 71 [(1, int i64 p), (2, ref 0 0), (4, ref 1 0), (5, ref 2 0), (8, int i64 0)]) ⟨[some (AObj.cells [int u8 w, lsl nla 0 csa lena cpa, lsl nlb 0 csb lenb cpb, lsl nlc 0 csc lenc cpc, lsl nld 0 csd lend cpd, lsl nle 0 cse lene cpe, lsl nlf 0 csf lenf cpf, lsl nlg 0 csg leng cpg, lsl nlh 0 csh lenh cph, lsl nli 0 csi leni cpi, lsl nlj 0 csj lenj cpj, lsl nlk 0 csk lenk cpk, lsl nll 0 csl lenl cpl, lsl nlm 0 csm lenm cpm] 25 false), some (AObj.cells [int u8 0, AV.bool false, int u32 0, nilS, nilS] 32 false), some (AObj.cells [int u8 z1, AV.bool b2, int u32 z3, nilS, nilS] 32 false)], 0⟩ (exit 1) (frOf 71 [(4, ref 0 0), (5, ref 1 0)]) ⟨[some (AObj.cells [int u8 0, AV.bool false, int u32 0, nilS, nilS] 32 false), some (AObj.cells [int u8 z1, AV.bool b2, int u32 z3, nilS, nilS] 32 false)], 0⟩ ∧ K (AOut.ret (agg [int u8 z1, AV.bool b2, int u32 z3, nilS, nilS])) ∨ ∃ n26 cs27, Cd 0 (Code.loop (bodyL Tryd.f13 1)) (frOf 71 [(1, int i64 p), (2, ref 0 0), (4, ref 1 0), (5, ref 2 0), (8, int i64 0)]) ⟨[some (AObj.cells [int u8 w, lsl nla 0 csa lena cpa, lsl nlb 0 csb lenb cpb, lsl nlc 0 csc lenc cpc, lsl nld 0 csd lend cpd, lsl nle 0 cse lene cpe, lsl nlf 0 csf lenf cpf, lsl nlg 0 csg leng cpg, lsl nlh 0 csh lenh cph, lsl nli 0 csi leni cpi, lsl nlj 0 csj lenj cpj, lsl nlk 0 csk lenk cpk, lsl nll 0 csl lenl cpl, lsl nlm 0 csm lenm cpm] 25 false), some (AObj.cells [int u8 0, AV.bool false, int u32 0, nilS, nilS] 32 false), some (AObj.cells [int u8 z1, AV.bool b2, int u32 z3, nilS, nilS] 32 false)], 0⟩ (exit 1) (frOf 71 [(4, ref 0 0), (5, ref 1 0)]) ⟨[some (AObj.cells [int u8 0, AV.bool false, int u32 0, nilS, nilS] 32 false), some (AObj.cells [int u8 z1, AV.bool b2, int u32 z3, rsl 2 0 n26 none, nilS] 32 false), some (AObj.cells cs27 5 true)], 0⟩ ∧ tagLeL 0 cs27 = true ∧ K (AOut.ret (agg [int u8 z1, AV.bool b2, int u32 z3, lsl false 0 cs27 n26 none, nilS]))) (K (AOut.ret (agg [int u8 z1, AV.bool b2, int u32 z3, nilS, lsl b16 0 cs17 n18 cp19]))))))))) := by kernel_rfl
end

/-! the element of a certificate, from plain data: which parts, and what is in them -/
def tagI (p : Int) : Int × Bool × Int := if p = 1 then (2, true, 0) else if p = 2 then (0, false, 2) else if p = 8 then (2, false, 1) else if p = 9 then (2, false, 2) else if p = 10 then (2, true, 3) else if p = 12 then (0, false, 3) else (0, true, 16)
theorem tagC_eq (p : Int) : tagC p = [.int .u8 (tagI p).1, .bool (tagI p).2.1, .int .u32 (tagI p).2.2] := by
  unfold tagC tagI
  repeat' split
  all_goals rfl

def hasM (w : Int) : List Bool := [true, decide (0 < w % 4), true, true, true, true, true, true, decide (0 < w % 4) && (w / 4 % 2 == 1), decide (0 < w % 4) && (w / 8 % 2 == 1), decide (1 < w % 4) && (w / 16 % 2 == 1), true, true]

def SIL : List (List Int) → List AV → Prop
  | [], [] => True
  | c :: cs, a :: l => SI .u8 c a ∧ SIL cs l
  | _, _ => False

theorem SIL.at : ∀ {cs : List (List Int)} {l : List AV}, SIL cs l → ∀ (i : Nat) (h : i < cs.length), ∃ a r, l.drop i = a :: r ∧ SI .u8 cs[i] a
  | [], _, _, _, h => by simp at h
  | _ :: _, [], h, _, _ => by simp [SIL] at h
  | c :: cs, a :: l, h, 0, _ => ⟨a, l, rfl, h.1⟩
  | c :: cs, a :: l, h, i + 1, hi => by
    have := SIL.at h.2 i (by simpa using hi)
    simpa using this

theorem SIL.tag : ∀ {cs : List (List Int)} {l : List AV}, SIL cs l → tagLeL 0 l = true
  | [], [], _ => rfl
  | _ :: _, [], h => by simp [SIL] at h
  | [], _ :: _, h => by simp [SIL] at h
  | c :: cs, a :: l, h => by
    obtain ⟨⟨nl, ex, cp, rfl, _⟩, h2⟩ := h
    simp [tagLeL, tagLe, SIL.tag h2]

def KA (w : Int) (codes : List (List Int)) (ck : List AV) : Prop := ∃ sl, ck = .int .u8 w :: sl ∧ codes.length = 13 ∧ SIL codes sl

theorem KA.tag {w : Int} {codes : List (List Int)} {ck : List AV} (h : KA w codes ck) : tagLeL 0 ck = true := by
  obtain ⟨sl, rfl, _, hs⟩ := h
  simp [tagLeL, tagLe, hs.tag]

theorem KA.at {w : Int} {codes : List (List Int)} {ck : List AV} (h : KA w codes ck) {p : Nat} (hp : p < 13) : ∃ nl ex cp r, ck.drop (1 + p) = .lsl nl 0 ((codes.getD p []).map (AV.int .u8) ++ ex) (codes.getD p []).length cp :: r ∧ capOk (codes.getD p []).length cp ∧ (codes.getD p []).length < 2 ^ 48 ∧ (nl = true → codes.getD p [] = []) := by
  obtain ⟨sl, rfl, hl, hs⟩ := h
  obtain ⟨a, r, h1, nl, ex, cp, rfl, h2, h3, h4⟩ := hs.at p (by omega)
  have e : codes.getD p [] = codes[p]'(by omega) := by rw [List.getD_eq_getElem?_getD, List.getElem?_eq_getElem (by omega)]; rfl
  refine ⟨nl, ex, cp, r, ?_, by rw [e]; exact h2, by rw [e]; exact h3, by rw [e]; exact h4⟩
  rw [e, Nat.add_comm, List.drop_succ_cons]
  exact h1

theorem si_cells {k : IntKind} {l : List Int} {a : AV} (h : SI k l a) : ∃ nl cs n cp, a = .lsl nl 0 cs n cp := by
  obtain ⟨nl, ex, cp, rfl, _⟩ := h
  exact ⟨_, _, _, _, rfl⟩

theorem SIL.cut {cs : List (List Int)} {l : List AV} {n : Nat} (h : SIL cs l) (hl : cs.length = n + 1) : ∃ nl c m cp l' cs', l = .lsl nl 0 c m cp :: l' ∧ cs'.length = n ∧ SIL cs' l' := by
  match cs, l, h with
  | c :: cs, a :: l, h =>
    obtain ⟨nl, ex, cp, rfl, _⟩ := h.1
    exact ⟨_, _, _, _, l, cs, rfl, by simpa using hl, h.2⟩

theorem SIL.none {cs : List (List Int)} {l : List AV} (h : SIL cs l) (hl : cs.length = 0) : l = [] := by
  match cs, l, h with
  | [], [], _ => rfl

theorem KA.out {w : Int} {codes : List (List Int)} {ck : List AV} (h : KA w codes ck) : ∃ nl0 cs0 n0 cp0 nl1 cs1 n1 cp1 nl2 cs2 n2 cp2 nl3 cs3 n3 cp3 nl4 cs4 n4 cp4 nl5 cs5 n5 cp5 nl6 cs6 n6 cp6 nl7 cs7 n7 cp7 nl8 cs8 n8 cp8 nl9 cs9 n9 cp9 nl10 cs10 n10 cp10 nl11 cs11 n11 cp11 nl12 cs12 n12 cp12, ck = [.int .u8 w, .lsl nl0 0 cs0 n0 cp0, .lsl nl1 0 cs1 n1 cp1, .lsl nl2 0 cs2 n2 cp2, .lsl nl3 0 cs3 n3 cp3, .lsl nl4 0 cs4 n4 cp4, .lsl nl5 0 cs5 n5 cp5, .lsl nl6 0 cs6 n6 cp6, .lsl nl7 0 cs7 n7 cp7, .lsl nl8 0 cs8 n8 cp8, .lsl nl9 0 cs9 n9 cp9, .lsl nl10 0 cs10 n10 cp10, .lsl nl11 0 cs11 n11 cp11, .lsl nl12 0 cs12 n12 cp12] := by
  obtain ⟨sl, rfl, hl, hs⟩ := h
  obtain ⟨_, _, _, _, l0, k0, rfl, hl, hs⟩ := hs.cut hl
  obtain ⟨_, _, _, _, l1, k1, rfl, hl, hs⟩ := hs.cut hl
  obtain ⟨_, _, _, _, l2, k2, rfl, hl, hs⟩ := hs.cut hl
  obtain ⟨_, _, _, _, l3, k3, rfl, hl, hs⟩ := hs.cut hl
  obtain ⟨_, _, _, _, l4, k4, rfl, hl, hs⟩ := hs.cut hl
  obtain ⟨_, _, _, _, l5, k5, rfl, hl, hs⟩ := hs.cut hl
  obtain ⟨_, _, _, _, l6, k6, rfl, hl, hs⟩ := hs.cut hl
  obtain ⟨_, _, _, _, l7, k7, rfl, hl, hs⟩ := hs.cut hl
  obtain ⟨_, _, _, _, l8, k8, rfl, hl, hs⟩ := hs.cut hl
  obtain ⟨_, _, _, _, l9, k9, rfl, hl, hs⟩ := hs.cut hl
  obtain ⟨_, _, _, _, l10, k10, rfl, hl, hs⟩ := hs.cut hl
  obtain ⟨_, _, _, _, l11, k11, rfl, hl, hs⟩ := hs.cut hl
  obtain ⟨_, _, _, _, l12, k12, rfl, hl, hs⟩ := hs.cut hl
  obtain rfl := hs.none hl
  exact ⟨_, _, _, _, _, _, _, _, _, _, _, _, _, _, _, _, _, _, _, _, _, _, _, _, _, _, _, _, _, _, _, _, _, _, _, _, _, _, _, _, _, _, _, _, _, _, _, _, _, _, _, _, rfl⟩

theorem sum10 {w : Int} {codes : List (List Int)} {ck : List AV} (h : KA w codes ck) (h0 : 0 ≤ w) (h1 : w < 256) : Sm 10 [.agg ck] (.agg ((hasM w).map AV.bool)) := by
  obtain ⟨_, _, _, _, _, _, _, _, _, _, _, _, _, _, _, _, _, _, _, _, _, _, _, _, _, _, _, _, _, _, _, _, _, _, _, _, _, _, _, _, _, _, _, _, _, _, _, _, _, _, _, _, rfl⟩ := h.out
  have e1 : w.tmod 4 = w % 4 := Int.tmod_eq_emod_of_nonneg h0
  have e2 : w.tdiv 4 = w / 4 := Int.tdiv_eq_ediv_of_nonneg h0
  have e3 : w.tdiv 8 = w / 8 := Int.tdiv_eq_ediv_of_nonneg h0
  have e4 : w.tdiv 16 = w / 16 := Int.tdiv_eq_ediv_of_nonneg h0
  have f2 : IntKind.u8.wrap (w / 4) = w / 4 := wrap_u8 (by omega) (by omega)
  have f3 : IntKind.u8.wrap (w / 8) = w / 8 := wrap_u8 (by omega) (by omega)
  have f4 : IntKind.u8.wrap (w / 16) = w / 16 := wrap_u8 (by omega) (by omega)
  have g2 : (w / 4).tmod 2 = w / 4 % 2 := Int.tmod_eq_emod_of_nonneg (by omega)
  have g3 : (w / 8).tmod 2 = w / 8 % 2 := Int.tmod_eq_emod_of_nonneg (by omega)
  have g4 : (w / 16).tmod 2 = w / 16 % 2 := Int.tmod_eq_emod_of_nonneg (by omega)
  refine sum_vc (vc10 ..) ?_
  rw [e1, e2, e3, e4, f2, f3, f4, g2, g3, g4]
  refine br_i (fun a => br_i (fun b => br_i (fun c => ?_) (fun c => ?_)) (fun b => br_i (fun c => ?_) (fun c => ?_))) (fun a => br_i (fun b => br_i (fun c => ?_) (fun c => ?_)) (fun b => br_i (fun c => ?_) (fun c => ?_))) <;>
    simp only [decide_eq_true_eq, decide_eq_false_iff_not, gt_iff_lt] at a b c <;> first | (exfalso; omega) | simp [hasM, a, c]

/-- The element of a part. -/
def partM (w : Int) (codes : List (List Int)) (p : Nat) : El :=
  if p = 1 then .mk 2 true 0 [] [.mk 0 false 2 [if 1 < w % 4 then 2 else 1] []]
  else if p = 10 then .mk 2 true 3 [] [codeEl (codes.getD 10 [])]
  else if p = 2 ∨ p = 8 ∨ p = 9 ∨ p = 12 then .mk (tagI p).1 (tagI p).2.1 (tagI p).2.2 ((codes.getD p []).take 30) []
  else .mk (tagI p).1 (tagI p).2.1 (tagI p).2.2 [] (bl (codes.getD p []) 0 2).1

theorem loop13 {w : Int} {codes : List (List Int)} {ck : List AV} (h : KA w codes ck) {p : Nat} (hp : p < 13) (zc zn ec en : Int) (zk nlz1 nlz2 ek : Bool) (lenz1 lenz2 : Nat) (csz1 csz2 : List AV) (cpz1 cpz2 : Option Nat) :
    ∀ (x : Nat) (kvs : List (Nat × AV)) (σ : St), (x ≤ (codes.getD p []).length ∧ x ≤ 30 ∧ kvs = [(1, .int .i64 p), (2, .ref 0 0), (4, .ref 1 0), (5, .ref 2 0), (8, .int .i64 x)] ∧
        ∃ bv os, ((x = 0 ∧ bv = nilS ∧ os = []) ∨ (bv = .rsl 3 0 x none ∧ os = [some (.cells (((codes.getD p []).take x).map (AV.int .u8)) 5 true)])) ∧
          σ = ⟨some (.cells ck 25 false) :: some (.cells [.int .u8 zc, .bool zk, .int .u32 zn, .lsl nlz1 0 csz1 lenz1 cpz1, .lsl nlz2 0 csz2 lenz2 cpz2] 32 false) :: some (.cells [.int .u8 ec, .bool ek, .int .u32 en, bv, nilS] 32 false) :: os, 0⟩) →
      ∃ ae kvs' σ', (ae = .exit 1 ∧ kvs' = [(4, .ref 0 0), (5, .ref 1 0)] ∧
        ∃ bv os, ((((codes.getD p []).take 30) = [] ∧ bv = nilS ∧ os = []) ∨ (bv = .rsl 2 0 ((codes.getD p []).take 30).length none ∧ os = [some (.cells (((codes.getD p []).take 30).map (AV.int .u8)) 5 true)])) ∧
          σ' = ⟨some (.cells [.int .u8 zc, .bool zk, .int .u32 zn, .lsl nlz1 0 csz1 lenz1 cpz1, .lsl nlz2 0 csz2 lenz2 cpz2] 32 false) :: some (.cells [.int .u8 ec, .bool ek, .int .u32 en, bv, nilS] 32 false) :: os, 0⟩) ∧
        Cd 0 (.loop (bodyL Tryd.f13 1)) (frOf 71 kvs) σ ae (frOf 71 kvs') σ' := by
  obtain ⟨nls, exs, cps, rest, hdrop, _, hls, hns⟩ := h.at hp
  have htag := h.tag
  generalize hcode : codes.getD p [] = code at hdrop hls hns ⊢
  refine loop_by (tb := tb_r13) (f := 13) (c := bodyL Tryd.f13 1) (k := 0) (N := 71) (keepN := [1, 2, 4, 5, 8]) (keepX := [4, 5]) env_ok _ _ (fun x => 30 - x) ?_
  rintro i kvs σ ⟨hi, hi30, rfl, bv, os, hos, rfl⟩
  have hw : IntKind.i64.wrap ((i : Int) + 1) = ((i + 1 : Nat) : Int) := by rw [wrap_small (by omega) (by omega)]; simp
  have hd : List.drop (1 + Int.toNat (p : Int) * 1) ck = .lsl nls 0 (code.map (AV.int .u8) ++ exs) code.length cps :: rest := by rw [Int.toNat_natCast, Nat.mul_one]; exact hdrop
  have hex : ¬ (i < code.length ∧ i < 30) → code.take 30 = code.take i := by
    intro hno
    by_cases h1 : i = 30
    · rw [h1]
    · rw [List.take_of_length_le (by omega), List.take_of_length_le (by omega)]
  have htl : (code.take i).length = i := by rw [List.length_take]; omega
  rcases hos with ⟨rfl, rfl, rfl⟩ | ⟨rfl, rfl⟩
  · change roundT _ _ tb_r13n _ _ _ _ _ _ _ _ _
    rw [r13n]
    refine ⟨by omega, by omega, _, _, _, _, _, hd, ?_⟩
    have hstop : ¬ (0 < code.length ∧ 0 < 30) → code.take 30 = [] := fun hno => by rw [hex hno]; rfl
    refine br_i (fun h1 => br_i (fun h2 => ?_) (fun h2 => ?_)) (fun h1 => ?_)
    · have h1 : 0 < code.length := by have := of_decide_eq_true h1; omega
      have hnl : nls = false := by
        cases nls
        · rfl
        · rw [hns rfl] at h1; simp at h1
      refine ⟨by omega, by omega, _, _, _, _, _, hd, hnl, by omega, by omega, _, _, by exact SI.cells_at h1, by omega, .inl rfl, by omega, by omega, by omega, htag, rfl, ?_⟩
      rw [hw]
      refine ⟨1, by omega, ⟨by omega, by omega, rfl, _, _, .inr ⟨rfl, ?_⟩, rfl⟩, fun _ _ _ h => h⟩
      rw [List.take_succ_eq_append_getElem h1]
      rfl
    · simp at h2
    · have h1 : code.length ≤ 0 := by have := of_decide_eq_false h1; omega
      exact ⟨rfl, rfl, _, _, .inl ⟨hstop (by omega), rfl, rfl⟩, rfl⟩
  · change roundT _ _ tb_r13 _ _ _ _ _ _ _ _ _
    rw [r13]
    refine ⟨by omega, by omega, _, _, _, _, _, hd, ?_⟩
    have hstop : ¬ (i < code.length ∧ i < 30) → (∃ bv os, ((code.take 30 = [] ∧ bv = nilS ∧ os = []) ∨ (bv = .rsl 2 0 (code.take 30).length none ∧ os = [some (.cells ((code.take 30).map (AV.int .u8)) 5 true)])) ∧
        (⟨[some (.cells [.int .u8 zc, .bool zk, .int .u32 zn, .lsl nlz1 0 csz1 lenz1 cpz1, .lsl nlz2 0 csz2 lenz2 cpz2] 32 false), some (.cells [.int .u8 ec, .bool ek, .int .u32 en, .rsl 2 0 i none, nilS] 32 false), some (.cells ((code.take i).map (AV.int .u8)) 5 true)], 0⟩ : St) = ⟨some (.cells [.int .u8 zc, .bool zk, .int .u32 zn, .lsl nlz1 0 csz1 lenz1 cpz1, .lsl nlz2 0 csz2 lenz2 cpz2] 32 false) :: some (.cells [.int .u8 ec, .bool ek, .int .u32 en, bv, nilS] 32 false) :: os, 0⟩) := by
      intro hno
      exact ⟨.rsl 2 0 i none, _, .inr ⟨by rw [hex hno, htl], by rw [hex hno]⟩, rfl⟩
    have ht1 : tagLeL 0 ((code.take i).map (AV.int .u8)) = true := tagLeL_map _
    refine br_i (fun h1 => br_i (fun h2 => ?_) (fun h2 => ?_)) (fun h1 => ?_)
    · have h1 : i < code.length := by have := of_decide_eq_true h1; omega
      have h2 : i < 30 := by have := of_decide_eq_true h2; omega
      have hnl : nls = false := by
        cases nls
        · rfl
        · rw [hns rfl] at h1; simp at h1
      refine ⟨by omega, by omega, _, _, _, _, _, hd, hnl, by omega, by omega, _, _, by rw [Int.toNat_natCast, Nat.mul_one]; exact SI.cells_at h1, by omega, by rw [List.length_map, htl, Nat.mul_one], by omega, by omega, htag, ?_, ?_⟩
      · rw [tagLeL_append, ht1]; rfl
      · rw [hw]
        refine ⟨i + 1, by omega, ⟨by omega, by omega, rfl, _, _, .inr ⟨rfl, ?_⟩, rfl⟩, fun _ _ _ h => h⟩
        rw [List.take_succ_eq_append_getElem h1, List.map_append]
        rfl
    · have h2 : 30 ≤ i := by have := of_decide_eq_false h2; omega
      exact ⟨ht1, rfl, rfl, hstop (by omega)⟩
    · have h1 : code.length ≤ i := by have := of_decide_eq_false h1; omega
      exact ⟨ht1, rfl, rfl, hstop (by omega)⟩

theorem sum13 {w : Int} {codes : List (List Int)} {ck : List AV} (h : KA w codes ck) (h0 : 0 ≤ w) (h1 : w < 256) (hb : ∀ c ∈ codes, Byt c) {p : Nat} (hp : p < 13) : ∃ cells, ElA (partM w codes p) cells ∧ Sm 13 [.agg ck, .int .i64 p] (.agg cells) := by
  have e1 : w.tmod 4 = w % 4 := Int.tmod_eq_emod_of_nonneg h0
  have ep : IntKind.u8.wrap (p : Int) = p := wrap_u8 (by omega) (by omega)
  have s28 := sum28 (p : Int)
  rw [tagC_eq] at s28
  obtain ⟨nl, ex, cp, r, hdrop, hc1, hc2, hc3⟩ := h.at hp
  have hbp : Byt (codes.getD p []) := by
    rw [List.getD_eq_getElem?_getD]
    cases hg : codes[p]? with
    | none => intro b hb; simp at hb
    | some c => exact hb c (List.mem_of_getElem? hg)
  obtain ⟨v34, hv34, s34⟩ := sum34 (b := .lsl nl 0 ((codes.getD p []).map (AV.int .u8) ++ ex) (codes.getD p []).length cp) ⟨nl, ex, cp, rfl, hc1, hc2, hc3⟩ hbp
  have hd : List.drop (1 + Int.toNat (p : Int) * 1) ck = .lsl nl 0 ((codes.getD p []).map (AV.int .u8) ++ ex) (codes.getD p []).length cp :: r := by rw [Int.toNat_natCast, Nat.mul_one]; exact hdrop
  have hv0 := hv34
  obtain ⟨nlv, csv, cpv, rfl, -⟩ := hv34
  have hka := h
  obtain ⟨_, _, _, _, _, _, _, _, _, _, _, _, _, _, _, _, _, _, _, _, _, _, _, _, _, _, _, _, _, _, _, _, _, _, _, _, _, _, _, _, _, _, _, _, _, _, _, _, _, _, _, _, rfl⟩ := h.out
  refine sum_fn (fun c => .agg c) _ (vc13 ..) ?_
  rw [ep, e1]
  refine ⟨_, _, _, s28, by omega, by omega, _, _, _, _, _, hd, _, _, _, _, _, _, _, _, _, _, _, s34, ?_⟩
  refine br_i (fun q => ?_) (fun q => ?_)
  · obtain rfl : p = 1 := by have : (p : Int) = 1 := by simpa using q
                             omega
    refine br_i (fun hw => ?_) (fun hw => ?_)
    · have hw : 1 < w % 4 := by simpa using hw
      refine ⟨_, rfl, ?_⟩
      unfold partM
      rw [if_pos rfl, if_pos hw]
      exact elA_cells si_nil0 ⟨false, _, some 1, rfl, capOk_some, by simp, by simp, els_cons (elA_cells ⟨false, [], some 1, rfl, capOk_some, by simp, by simp⟩ se_nil) els_nil⟩
    · have hw : ¬ 1 < w % 4 := by simpa using hw
      refine ⟨_, rfl, ?_⟩
      unfold partM
      rw [if_pos rfl, if_neg hw]
      exact elA_cells si_nil0 ⟨false, _, some 1, rfl, capOk_some, by simp, by simp, els_cons (elA_cells ⟨false, [], some 1, rfl, capOk_some, by simp, by simp⟩ se_nil) els_nil⟩
  have q1 : p ≠ 1 := by
    intro h; subst h; simp at q
  refine br_i (fun q => ?_) (fun q => ?_)
  · obtain rfl : p = 10 := by have : (p : Int) = 10 := by simpa using q
                              omega
    refine ⟨_, rfl, ?_⟩
    unfold partM
    rw [if_neg (by omega), if_pos rfl]
    exact elA_cells si_nil0 ⟨false, _, some 1, rfl, capOk_some, by simp, by simp, els_cons (elA_cells si_nil0 hv0) els_nil⟩
  have q10 : p ≠ 10 := by
    intro h; subst h; simp at q
  refine br_i (fun q => ?_) (fun q => ?_)
  · have hpn : p = 2 := by have : (p : Int) = 2 := by simpa using q
                           omega
    refine br_t (by rw [hpn]; rfl) ?_
    obtain ⟨ae, kvs', σ', ⟨rfl, rfl, bv, os, hos, rfl⟩, hcd⟩ := loop13 hka hp 0 0 (tagI p).1 (tagI p).2.2 false true true (tagI p).2.1 0 0 [] [] (some 0) (some 0) 0 _ _ ⟨by omega, by omega, rfl, nilS, [], .inl ⟨rfl, rfl, rfl⟩, rfl⟩
    have hpm : partM w codes p = .mk (tagI p).1 (tagI p).2.1 (tagI p).2.2 ((codes.getD p []).take 30) [] := by unfold partM; rw [if_neg (by omega), if_neg (by omega), if_pos (by omega)]
    rcases hos with ⟨hz, rfl, rfl⟩ | ⟨rfl, rfl⟩
    · refine .inl ⟨hcd, _, rfl, ?_⟩
      rw [hpm, hz]
      exact elA_cells si_nil0 se_nil
    · refine .inr ⟨_, _, hcd, tagLeL_map _, _, rfl, ?_⟩
      rw [hpm]
      exact elA_cells ⟨false, [], none, by rw [List.append_nil], capOk_none, by rw [List.length_take]; omega, by simp⟩ se_nil
  have q2 : p ≠ 2 := by
    intro h; subst h; simp at q
  refine br_i (fun q => ?_) (fun q => ?_)
  · have hpn : p = 8 := by have : (p : Int) = 8 := by simpa using q
                           omega
    refine br_t (by rw [hpn]; rfl) ?_
    obtain ⟨ae, kvs', σ', ⟨rfl, rfl, bv, os, hos, rfl⟩, hcd⟩ := loop13 hka hp 0 0 (tagI p).1 (tagI p).2.2 false true true (tagI p).2.1 0 0 [] [] (some 0) (some 0) 0 _ _ ⟨by omega, by omega, rfl, nilS, [], .inl ⟨rfl, rfl, rfl⟩, rfl⟩
    have hpm : partM w codes p = .mk (tagI p).1 (tagI p).2.1 (tagI p).2.2 ((codes.getD p []).take 30) [] := by unfold partM; rw [if_neg (by omega), if_neg (by omega), if_pos (by omega)]
    rcases hos with ⟨hz, rfl, rfl⟩ | ⟨rfl, rfl⟩
    · refine .inl ⟨hcd, _, rfl, ?_⟩
      rw [hpm, hz]
      exact elA_cells si_nil0 se_nil
    · refine .inr ⟨_, _, hcd, tagLeL_map _, _, rfl, ?_⟩
      rw [hpm]
      exact elA_cells ⟨false, [], none, by rw [List.append_nil], capOk_none, by rw [List.length_take]; omega, by simp⟩ se_nil
  have q8 : p ≠ 8 := by
    intro h; subst h; simp at q
  refine br_i (fun q => ?_) (fun q => ?_)
  · have hpn : p = 9 := by have : (p : Int) = 9 := by simpa using q
                           omega
    refine br_t (by rw [hpn]; rfl) ?_
    obtain ⟨ae, kvs', σ', ⟨rfl, rfl, bv, os, hos, rfl⟩, hcd⟩ := loop13 hka hp 0 0 (tagI p).1 (tagI p).2.2 false true true (tagI p).2.1 0 0 [] [] (some 0) (some 0) 0 _ _ ⟨by omega, by omega, rfl, nilS, [], .inl ⟨rfl, rfl, rfl⟩, rfl⟩
    have hpm : partM w codes p = .mk (tagI p).1 (tagI p).2.1 (tagI p).2.2 ((codes.getD p []).take 30) [] := by unfold partM; rw [if_neg (by omega), if_neg (by omega), if_pos (by omega)]
    rcases hos with ⟨hz, rfl, rfl⟩ | ⟨rfl, rfl⟩
    · refine .inl ⟨hcd, _, rfl, ?_⟩
      rw [hpm, hz]
      exact elA_cells si_nil0 se_nil
    · refine .inr ⟨_, _, hcd, tagLeL_map _, _, rfl, ?_⟩
      rw [hpm]
      exact elA_cells ⟨false, [], none, by rw [List.append_nil], capOk_none, by rw [List.length_take]; omega, by simp⟩ se_nil
  have q9 : p ≠ 9 := by
    intro h; subst h; simp at q
  refine br_i (fun q => ?_) (fun q => ?_)
  · have hpn : p = 12 := by have : (p : Int) = 12 := by simpa using q
                            omega
    obtain ⟨ae, kvs', σ', ⟨rfl, rfl, bv, os, hos, rfl⟩, hcd⟩ := loop13 hka hp 0 0 (tagI p).1 (tagI p).2.2 false true true (tagI p).2.1 0 0 [] [] (some 0) (some 0) 0 _ _ ⟨by omega, by omega, rfl, nilS, [], .inl ⟨rfl, rfl, rfl⟩, rfl⟩
    have hpm : partM w codes p = .mk (tagI p).1 (tagI p).2.1 (tagI p).2.2 ((codes.getD p []).take 30) [] := by unfold partM; rw [if_neg (by omega), if_neg (by omega), if_pos (by omega)]
    rcases hos with ⟨hz, rfl, rfl⟩ | ⟨rfl, rfl⟩
    · refine .inl ⟨hcd, _, rfl, ?_⟩
      rw [hpm, hz]
      exact elA_cells si_nil0 se_nil
    · refine .inr ⟨_, _, hcd, tagLeL_map _, _, rfl, ?_⟩
      rw [hpm]
      exact elA_cells ⟨false, [], none, by rw [List.append_nil], capOk_none, by rw [List.length_take]; omega, by simp⟩ se_nil
  have q12 : p ≠ 12 := by
    intro h; subst h; simp at q
  refine ⟨_, rfl, ?_⟩
  unfold partM
  rw [if_neg q1, if_neg q10, if_neg (by omega)]
  exact elA_cells si_nil0 hv0

end Go.Vid
