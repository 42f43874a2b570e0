/-
The element of a certificate, from plain data.
-/
import Derived.Test.YtnjlocjikfbgdaaDoorXM
set_option linter.all false
namespace Go.Vid
open Go.Proofs
set_option maxRecDepth 100000
section
open AExit AOut AV IntKind
abbrev tb_r9n : List (FuncId × Sc) := [(9, { ops := [(6, [(1, Kd.w), (2, Kd.w)]), (1, [(0, Kd.w)]), (7, [(2, Kd.w), (6, Kd.w)])], lax := [25, 34, 1032] })]
theorem r9n (p zc zn ec en : Int) (zk nlz1 nlz2 ek : Bool) (lenz1 lenz2 : Nat) (ck csz1 csz2 hs : List AV) (cpz1 cpz2 : Option Nat) (K : AExit → List (Nat × AV) → St → Prop) : (roundT Tryd.prog env tb_r9n 9 (bodyL Tryd.f9 0) 0 33 [1, 2, 3, 4, 5] [1, 2, 4] [(1, ref 0 0), (2, ref 1 0), (3, ref 2 0), (4, ref 3 0), (5, int i64 p)] ⟨[some (AObj.cells ck 25 false), some (AObj.cells [int u8 zc, AV.bool zk, int u32 zn, lsl nlz1 0 csz1 lenz1 cpz1, lsl nlz2 0 csz2 lenz2 cpz2] 32 false), some (AObj.cells hs 34 false), some (AObj.cells [int u8 ec, AV.bool ek, int u32 en, nilS, nilS] 32 false)], 0⟩ K) =
    (br (decide (p < (11 : Int))) ((0 : Int) ≤ p ∧ p < (13 : Int) ∧ ∃ b1 cs2, List.drop (0 + Int.toNat p * 1) hs = AV.bool b1 :: cs2 ∧ br b1 (∃ z3 b4 cs5 n6 cp7 b8 cs9 n10 cp11 b12 cs13 n14 cp15 b16 cs17 n18 cp19 b20 cs21 n22 cp23 b24 cs25 n26 cp27 b28 cs29 n30 cp31 b32 cs33 n34 cp35 b36 cs37 n38 cp39 b40 cs41 n42 cp43 b44 cs45 n46 cp47 b48 cs49 n50 cp51 b52 cs53 n54 cp55 cs56, ck = int u8 z3 :: lsl b4 0 cs5 n6 cp7 :: lsl b8 0 cs9 n10 cp11 :: lsl b12 0 cs13 n14 cp15 :: lsl b16 0 cs17 n18 cp19 :: lsl b20 0 cs21 n22 cp23 :: lsl b24 0 cs25 n26 cp27 :: lsl b28 0 cs29 n30 cp31 :: lsl b32 0 cs33 n34 cp35 :: lsl b36 0 cs37 n38 cp39 :: lsl b40 0 cs41 n42 cp43 :: lsl b44 0 cs45 n46 cp47 :: lsl b48 0 cs49 n50 cp51 :: lsl b52 0 cs53 n54 cp55 :: cs56 ∧ ∃ z57 b58 z59 b60 cs61 n62 cp63 b64 cs65 n66 cp67, Sm 13 [agg [int u8 z3, lsl b4 0 cs5 n6 cp7, lsl b8 0 cs9 n10 cp11, lsl b12 0 cs13 n14 cp15, lsl b16 0 cs17 n18 cp19, lsl b20 0 cs21 n22 cp23, lsl b24 0 cs25 n26 cp27, lsl b28 0 cs29 n30 cp31, lsl b32 0 cs33 n34 cp35, lsl b36 0 cs37 n38 cp39, lsl b40 0 cs41 n42 cp43, lsl b44 0 cs45 n46 cp47, lsl b48 0 cs49 n50 cp51, lsl b52 0 cs53 n54 cp55], int i64 p] ((agg [int u8 z57, AV.bool b58, int u32 z59, lsl b60 0 cs61 n62 cp63, lsl b64 0 cs65 n66 cp67])) ∧ 5 ≤ 5 ∧ (true = true ∨ some 0 = some 0) ∧ 0 ≤ 0 ∧ 56 ≤ 70368744177664 ∧ 1 ≤ 70368744177664 ∧ tagLeL 0 ck = true ∧ tagLeL 0 hs = true ∧ true = true ∧ K normal [(1, ref 0 0), (2, ref 1 0), (3, ref 2 0), (4, ref 3 0), (5, int i64 (wrap i64 (p + (1 : Int))))] ⟨[some (AObj.cells ck 25 false), some (AObj.cells [int u8 zc, AV.bool zk, int u32 zn, lsl nlz1 0 csz1 lenz1 cpz1, lsl nlz2 0 csz2 lenz2 cpz2] 32 false), some (AObj.cells hs 34 false), some (AObj.cells [int u8 ec, AV.bool ek, int u32 en, nilS, rsl 4 0 1 none] 32 false), some (AObj.cells [int u8 z57, AV.bool b58, int u32 z59, lsl b60 0 cs61 n62 cp63, lsl b64 0 cs65 n66 cp67] 32 true)], 0⟩) (tagLeL 0 ck = true ∧ tagLeL 0 hs = true ∧ K normal [(1, ref 0 0), (2, ref 1 0), (3, ref 2 0), (4, ref 3 0), (5, int i64 (wrap i64 (p + (1 : Int))))] ⟨[some (AObj.cells ck 25 false), some (AObj.cells [int u8 zc, AV.bool zk, int u32 zn, lsl nlz1 0 csz1 lenz1 cpz1, lsl nlz2 0 csz2 lenz2 cpz2] 32 false), some (AObj.cells hs 34 false), some (AObj.cells [int u8 ec, AV.bool ek, int u32 en, nilS, nilS] 32 false)], 0⟩)) (tagLeL 0 ck = true ∧ K (exit 0) [(1, ref 0 0), (2, ref 1 0), (4, ref 2 0)] ⟨[some (AObj.cells ck 25 false), some (AObj.cells [int u8 zc, AV.bool zk, int u32 zn, lsl nlz1 0 csz1 lenz1 cpz1, lsl nlz2 0 csz2 lenz2 cpz2] 32 false), some (AObj.cells [int u8 ec, AV.bool ek, int u32 en, nilS, nilS] 32 false)], 0⟩)) := by kernel_rfl
abbrev tb_r9 : List (FuncId × Sc) := [(9, { ops := [(6, [(1, Kd.w), (2, Kd.w)]), (1, [(0, Kd.w)]), (7, [(2, Kd.w), (6, Kd.w)])], lax := [25, 34, 1032] })]
theorem r9 (p zc zn ec en : Int) (zk nlz1 nlz2 ek : Bool) (lenz1 lenz2 m : Nat) (ck csz1 csz2 hs cso : List AV) (cpz1 cpz2 : Option Nat) (K : AExit → List (Nat × AV) → St → Prop) : (roundT Tryd.prog env tb_r9 9 (bodyL Tryd.f9 0) 0 33 [1, 2, 3, 4, 5] [1, 2, 4] [(1, ref 0 0), (2, ref 1 0), (3, ref 2 0), (4, ref 3 0), (5, int i64 p)] ⟨[some (AObj.cells ck 25 false), some (AObj.cells [int u8 zc, AV.bool zk, int u32 zn, lsl nlz1 0 csz1 lenz1 cpz1, lsl nlz2 0 csz2 lenz2 cpz2] 32 false), some (AObj.cells hs 34 false), some (AObj.cells [int u8 ec, AV.bool ek, int u32 en, nilS, rsl 4 0 m none] 32 false), some (AObj.cells cso 32 true)], 0⟩ K) =
    (br (decide (p < (11 : Int))) ((0 : Int) ≤ p ∧ p < (13 : Int) ∧ ∃ b1 cs2, List.drop (0 + Int.toNat p * 1) hs = AV.bool b1 :: cs2 ∧ br b1 (∃ z3 b4 cs5 n6 cp7 b8 cs9 n10 cp11 b12 cs13 n14 cp15 b16 cs17 n18 cp19 b20 cs21 n22 cp23 b24 cs25 n26 cp27 b28 cs29 n30 cp31 b32 cs33 n34 cp35 b36 cs37 n38 cp39 b40 cs41 n42 cp43 b44 cs45 n46 cp47 b48 cs49 n50 cp51 b52 cs53 n54 cp55 cs56, ck = int u8 z3 :: lsl b4 0 cs5 n6 cp7 :: lsl b8 0 cs9 n10 cp11 :: lsl b12 0 cs13 n14 cp15 :: lsl b16 0 cs17 n18 cp19 :: lsl b20 0 cs21 n22 cp23 :: lsl b24 0 cs25 n26 cp27 :: lsl b28 0 cs29 n30 cp31 :: lsl b32 0 cs33 n34 cp35 :: lsl b36 0 cs37 n38 cp39 :: lsl b40 0 cs41 n42 cp43 :: lsl b44 0 cs45 n46 cp47 :: lsl b48 0 cs49 n50 cp51 :: lsl b52 0 cs53 n54 cp55 :: cs56 ∧ ∃ z57 b58 z59 b60 cs61 n62 cp63 b64 cs65 n66 cp67, Sm 13 [agg [int u8 z3, lsl b4 0 cs5 n6 cp7, lsl b8 0 cs9 n10 cp11, lsl b12 0 cs13 n14 cp15, lsl b16 0 cs17 n18 cp19, lsl b20 0 cs21 n22 cp23, lsl b24 0 cs25 n26 cp27, lsl b28 0 cs29 n30 cp31, lsl b32 0 cs33 n34 cp35, lsl b36 0 cs37 n38 cp39, lsl b40 0 cs41 n42 cp43, lsl b44 0 cs45 n46 cp47, lsl b48 0 cs49 n50 cp51, lsl b52 0 cs53 n54 cp55], int i64 p] ((agg [int u8 z57, AV.bool b58, int u32 z59, lsl b60 0 cs61 n62 cp63, lsl b64 0 cs65 n66 cp67])) ∧ 5 ≤ 5 ∧ List.length cso = m * 5 ∧ (m + 1) * 56 ≤ 70368744177664 ∧ m + 1 ≤ 70368744177664 ∧ tagLeL 0 ck = true ∧ tagLeL 0 hs = true ∧ tagLeL 0 (cso ++ [int u8 z57, AV.bool b58, int u32 z59, lsl b60 0 cs61 n62 cp63, lsl b64 0 cs65 n66 cp67]) = true ∧ K normal [(1, ref 0 0), (2, ref 1 0), (3, ref 2 0), (4, ref 3 0), (5, int i64 (wrap i64 (p + (1 : Int))))] ⟨[some (AObj.cells ck 25 false), some (AObj.cells [int u8 zc, AV.bool zk, int u32 zn, lsl nlz1 0 csz1 lenz1 cpz1, lsl nlz2 0 csz2 lenz2 cpz2] 32 false), some (AObj.cells hs 34 false), some (AObj.cells [int u8 ec, AV.bool ek, int u32 en, nilS, rsl 4 0 (m + 1) none] 32 false), some (AObj.cells (cso ++ [int u8 z57, AV.bool b58, int u32 z59, lsl b60 0 cs61 n62 cp63, lsl b64 0 cs65 n66 cp67]) 32 true)], 0⟩) (tagLeL 0 ck = true ∧ tagLeL 0 hs = true ∧ tagLeL 0 cso = true ∧ K normal [(1, ref 0 0), (2, ref 1 0), (3, ref 2 0), (4, ref 3 0), (5, int i64 (wrap i64 (p + (1 : Int))))] ⟨[some (AObj.cells ck 25 false), some (AObj.cells [int u8 zc, AV.bool zk, int u32 zn, lsl nlz1 0 csz1 lenz1 cpz1, lsl nlz2 0 csz2 lenz2 cpz2] 32 false), some (AObj.cells hs 34 false), some (AObj.cells [int u8 ec, AV.bool ek, int u32 en, nilS, rsl 4 0 m none] 32 false), some (AObj.cells cso 32 true)], 0⟩)) (tagLeL 0 ck = true ∧ tagLeL 0 cso = true ∧ K (exit 0) [(1, ref 0 0), (2, ref 1 0), (4, ref 2 0)] ⟨[some (AObj.cells ck 25 false), some (AObj.cells [int u8 zc, AV.bool zk, int u32 zn, lsl nlz1 0 csz1 lenz1 cpz1, lsl nlz2 0 csz2 lenz2 cpz2] 32 false), some (AObj.cells [int u8 ec, AV.bool ek, int u32 en, nilS, rsl 3 0 m none] 32 false), some (AObj.cells cso 32 true)], 0⟩)) := by kernel_rfl
theorem vc9 (w : Int) (nla nlb nlc nld nle nlf nlg nlh nli nlj nlk nll nlm : Bool) (lena lenb lenc lend lene lenf leng lenh leni lenj lenk lenl lenm : Nat) (csa csb csc csd cse csf csg csh csi csj csk csl csm : List AV) (cpa cpb cpc cpd cpe cpf cpg cph cpi cpj cpk cpl cpm : Option Nat) (K : AOut → Prop) : (dataT Tryd.prog env [(9, { loops := [(0, LoopS.inv [1, 2, 3, 4, 5] fun vs σ => Sh.or (Sh.one (exit 0, [(1, ref 0 0), (2, ref 1 0), (4, ref 2 0)], ⟨[List.getD (St.objs σ) 0 none, List.getD (St.objs σ) 1 none, List.getD (St.objs σ) 3 none], 0⟩)) (Sh.nat fun m => Sh.cells fun cs => Sh.one (exit 0, [(1, ref 0 0), (2, ref 1 0), (4, ref 2 0)], ⟨[List.getD (St.objs σ) 0 none, List.getD (St.objs σ) 1 none, esub (List.getD (St.objs σ) 3 none) (rsl 3 0 m none), some (AObj.cells cs 32 true)], 0⟩)))], lax := [1032] })] 9 [agg [int u8 w, lsl nla 0 csa lena cpa, lsl nlb 0 csb lenb cpb, lsl nlc 0 csc lenc cpc, lsl nld 0 csd lend cpd, lsl nle 0 cse lene cpe, lsl nlf 0 csf lenf cpf, lsl nlg 0 csg leng cpg, lsl nlh 0 csh lenh cph, lsl nli 0 csi leni cpi, lsl nlj 0 csj lenj cpj, lsl nlk 0 csk lenk cpk, lsl nll 0 csl lenl cpl, lsl nlm 0 csm lenm cpm]] K) =
    (∃ b1 b2 b3 b4 b5 b6 b7 b8 b9 b10 b11 b12 b13, Sm 10 [agg [int u8 w, lsl nla 0 csa lena cpa, lsl nlb 0 csb lenb cpb, lsl nlc 0 csc lenc cpc, lsl nld 0 csd lend cpd, lsl nle 0 cse lene cpe, lsl nlf 0 csf lenf cpf, lsl nlg 0 csg leng cpg, lsl nlh 0 csh lenh cph, lsl nli 0 csi leni cpi, lsl nlj 0 csj lenj cpj, lsl nlk 0 csk lenk cpk, lsl nll 0 csl lenl cpl, lsl nlm 0 csm lenm cpm]] ((agg [AV.bool b1, AV.bool b2, AV.bool b3, AV.bool b4, AV.bool b5, AV.bool b6, AV.bool b7, AV.bool b8, AV.bool b9, AV.bool b10, AV.bool b11, AV.bool b12, AV.bool b13])) ∧ ∃ z14 b15 z16, Sm 28 [int u8 0] ((agg [int u8 z14, AV.bool b15, int u32 z16])) ∧ ((Cd 0 (Code.loop (bodyL Tryd.f9 0)) (frOf 33 [(1, ref 0 0), (2, ref 1 0), (3, ref 2 0), (4, ref 3 0), (5, int i64 1)]) ⟨[some (AObj.cells [int u8 w, lsl nla 0 csa lena cpa, lsl nlb 0 csb lenb cpb, lsl nlc 0 csc lenc cpc, lsl nld 0 csd lend cpd, lsl nle 0 cse lene cpe, lsl nlf 0 csf lenf cpf, lsl nlg 0 csg leng cpg, lsl nlh 0 csh lenh cph, lsl nli 0 csi leni cpi, lsl nlj 0 csj lenj cpj, lsl nlk 0 csk lenk cpk, lsl nll 0 csl lenl cpl, lsl nlm 0 csm lenm cpm] 25 false), some (AObj.cells [int u8 0, AV.bool false, int u32 0, nilS, nilS] 32 false), some (AObj.cells [AV.bool b1, AV.bool b2, AV.bool b3, AV.bool b4, AV.bool b5, AV.bool b6, AV.bool b7, AV.bool b8, AV.bool b9, AV.bool b10, AV.bool b11, AV.bool b12, AV.bool b13] 34 false), some (AObj.cells [int u8 z14, AV.bool b15, int u32 z16, nilS, nilS] 32 false)], 0⟩ (exit 0) (frOf 33 [(1, ref 0 0), (2, ref 1 0), (4, ref 2 0)]) ⟨[some (AObj.cells [int u8 w, lsl nla 0 csa lena cpa, lsl nlb 0 csb lenb cpb, lsl nlc 0 csc lenc cpc, lsl nld 0 csd lend cpd, lsl nle 0 cse lene cpe, lsl nlf 0 csf lenf cpf, lsl nlg 0 csg leng cpg, lsl nlh 0 csh lenh cph, lsl nli 0 csi leni cpi, lsl nlj 0 csj lenj cpj, lsl nlk 0 csk lenk cpk, lsl nll 0 csl lenl cpl, lsl nlm 0 csm lenm cpm] 25 false), some (AObj.cells [int u8 0, AV.bool false, int u32 0, nilS, nilS] 32 false), some (AObj.cells [int u8 z14, AV.bool b15, int u32 z16, nilS, nilS] 32 false)], 0⟩ ∧ ∃ z17 b18 z19, Sm 28 [int u8 0] ((agg [int u8 z17, AV.bool b18, int u32 z19])) ∧ ∃ z20 b21 z22 b23 cs24 n25 cp26 b27 cs28 n29 cp30, Sm 13 [agg [int u8 w, lsl nla 0 csa lena cpa, lsl nlb 0 csb lenb cpb, lsl nlc 0 csc lenc cpc, lsl nld 0 csd lend cpd, lsl nle 0 cse lene cpe, lsl nlf 0 csf lenf cpf, lsl nlg 0 csg leng cpg, lsl nlh 0 csh lenh cph, lsl nli 0 csi leni cpi, lsl nlj 0 csj lenj cpj, lsl nlk 0 csk lenk cpk, lsl nll 0 csl lenl cpl, lsl nlm 0 csm lenm cpm], int i64 11] ((agg [int u8 z20, AV.bool b21, int u32 z22, lsl b23 0 cs24 n25 cp26, lsl b27 0 cs28 n29 cp30])) ∧ ∃ z31 b32 z33 b34 cs35 n36 cp37 b38 cs39 n40 cp41, Sm 13 [agg [int u8 w, lsl nla 0 csa lena cpa, lsl nlb 0 csb lenb cpb, lsl nlc 0 csc lenc cpc, lsl nld 0 csd lend cpd, lsl nle 0 cse lene cpe, lsl nlf 0 csf lenf cpf, lsl nlg 0 csg leng cpg, lsl nlh 0 csh lenh cph, lsl nli 0 csi leni cpi, lsl nlj 0 csj lenj cpj, lsl nlk 0 csk lenk cpk, lsl nll 0 csl lenl cpl, lsl nlm 0 csm lenm cpm], int i64 12] ((agg [int u8 z31, AV.bool b32, int u32 z33, lsl b34 0 cs35 n36 cp37, lsl b38 0 cs39 n40 cp41])) ∧ K (AOut.ret (agg [int u8 z17, AV.bool b18, int u32 z19, nilS, lsl false 0 [int u8 z14, AV.bool b15, int u32 z16, nilS, nilS, int u8 z20, AV.bool b21, int u32 z22, lsl b23 0 cs24 n25 cp26, lsl b27 0 cs28 n29 cp30, int u8 z31, AV.bool b32, int u32 z33, lsl b34 0 cs35 n36 cp37, lsl b38 0 cs39 n40 cp41] 3 (some 3)]))) ∨ ∃ n42 cs43, Cd 0 (Code.loop (bodyL Tryd.f9 0)) (frOf 33 [(1, ref 0 0), (2, ref 1 0), (3, ref 2 0), (4, ref 3 0), (5, int i64 1)]) ⟨[some (AObj.cells [int u8 w, lsl nla 0 csa lena cpa, lsl nlb 0 csb lenb cpb, lsl nlc 0 csc lenc cpc, lsl nld 0 csd lend cpd, lsl nle 0 cse lene cpe, lsl nlf 0 csf lenf cpf, lsl nlg 0 csg leng cpg, lsl nlh 0 csh lenh cph, lsl nli 0 csi leni cpi, lsl nlj 0 csj lenj cpj, lsl nlk 0 csk lenk cpk, lsl nll 0 csl lenl cpl, lsl nlm 0 csm lenm cpm] 25 false), some (AObj.cells [int u8 0, AV.bool false, int u32 0, nilS, nilS] 32 false), some (AObj.cells [AV.bool b1, AV.bool b2, AV.bool b3, AV.bool b4, AV.bool b5, AV.bool b6, AV.bool b7, AV.bool b8, AV.bool b9, AV.bool b10, AV.bool b11, AV.bool b12, AV.bool b13] 34 false), some (AObj.cells [int u8 z14, AV.bool b15, int u32 z16, nilS, nilS] 32 false)], 0⟩ (exit 0) (frOf 33 [(1, ref 0 0), (2, ref 1 0), (4, ref 2 0)]) ⟨[some (AObj.cells [int u8 w, lsl nla 0 csa lena cpa, lsl nlb 0 csb lenb cpb, lsl nlc 0 csc lenc cpc, lsl nld 0 csd lend cpd, lsl nle 0 cse lene cpe, lsl nlf 0 csf lenf cpf, lsl nlg 0 csg leng cpg, lsl nlh 0 csh lenh cph, lsl nli 0 csi leni cpi, lsl nlj 0 csj lenj cpj, lsl nlk 0 csk lenk cpk, lsl nll 0 csl lenl cpl, lsl nlm 0 csm lenm cpm] 25 false), some (AObj.cells [int u8 0, AV.bool false, int u32 0, nilS, nilS] 32 false), some (AObj.cells [int u8 z14, AV.bool b15, int u32 z16, nilS, rsl 3 0 n42 none] 32 false), some (AObj.cells cs43 32 true)], 0⟩ ∧ ∃ z44 b45 z46, Sm 28 [int u8 0] ((agg [int u8 z44, AV.bool b45, int u32 z46])) ∧ ∃ z47 b48 z49 b50 cs51 n52 cp53 b54 cs55 n56 cp57, Sm 13 [agg [int u8 w, lsl nla 0 csa lena cpa, lsl nlb 0 csb lenb cpb, lsl nlc 0 csc lenc cpc, lsl nld 0 csd lend cpd, lsl nle 0 cse lene cpe, lsl nlf 0 csf lenf cpf, lsl nlg 0 csg leng cpg, lsl nlh 0 csh lenh cph, lsl nli 0 csi leni cpi, lsl nlj 0 csj lenj cpj, lsl nlk 0 csk lenk cpk, lsl nll 0 csl lenl cpl, lsl nlm 0 csm lenm cpm], int i64 11] ((agg [int u8 z47, AV.bool b48, int u32 z49, lsl b50 0 cs51 n52 cp53, lsl b54 0 cs55 n56 cp57])) ∧ ∃ z58 b59 z60 b61 cs62 n63 cp64 b65 cs66 n67 cp68, Sm 13 [agg [int u8 w, lsl nla 0 csa lena cpa, lsl nlb 0 csb lenb cpb, lsl nlc 0 csc lenc cpc, lsl nld 0 csd lend cpd, lsl nle 0 cse lene cpe, lsl nlf 0 csf lenf cpf, lsl nlg 0 csg leng cpg, lsl nlh 0 csh lenh cph, lsl nli 0 csi leni cpi, lsl nlj 0 csj lenj cpj, lsl nlk 0 csk lenk cpk, lsl nll 0 csl lenl cpl, lsl nlm 0 csm lenm cpm], int i64 12] ((agg [int u8 z58, AV.bool b59, int u32 z60, lsl b61 0 cs62 n63 cp64, lsl b65 0 cs66 n67 cp68])) ∧ tagLeL 0 cs43 = true ∧ K (AOut.ret (agg [int u8 z44, AV.bool b45, int u32 z46, nilS, lsl false 0 [int u8 z14, AV.bool b15, int u32 z16, nilS, lsl false 0 cs43 n42 none, int u8 z47, AV.bool b48, int u32 z49, lsl b50 0 cs51 n52 cp53, lsl b54 0 cs55 n56 cp57, int u8 z58, AV.bool b59, int u32 z60, lsl b61 0 cs62 n63 cp64, lsl b65 0 cs66 n67 cp68] 3 (some 3)])))) := by kernel_rfl
end

/-- The parts up to a number. -/
def tbsM (w : Int) (codes : List (List Int)) : Nat → List El
  | 0 => []
  | p + 1 => tbsM w codes p ++ (if (hasM w).getD (p + 1) false = true then [partM w codes (p + 1)] else [])

theorem tbsM_len (w : Int) (codes : List (List Int)) : ∀ p, (tbsM w codes p).length ≤ p
  | 0 => by simp [tbsM]
  | p + 1 => by
    have := tbsM_len w codes p
    unfold tbsM
    split <;> simp <;> omega

/-- The element that plain data describes. -/
def kOf (w : Int) (codes : List (List Int)) : El := .mk 0 true 16 [] [.mk 0 true 16 [] (tbsM w codes 10), partM w codes 11, partM w codes 12]

theorem hasM_len (w : Int) : (hasM w).length = 13 := rfl

theorem bools_at2 : ∀ (l : List Bool) (i : Nat), i < l.length → ∃ r, (l.map AV.bool).drop i = .bool (l.getD i false) :: r
  | [], _, h => by simp at h
  | b :: l, 0, _ => ⟨_, rfl⟩
  | b :: l, i + 1, h => by
    obtain ⟨r, hr⟩ := bools_at2 l i (by simpa using h)
    exact ⟨r, by simpa using hr⟩

theorem loop9 {w : Int} {codes : List (List Int)} {ck : List AV} (h : KA w codes ck) (h0 : 0 ≤ w) (h1 : w < 256) (hb : ∀ c ∈ codes, Byt c) (zc zn ec en : Int) (zk nlz1 nlz2 ek : Bool) (lenz1 lenz2 : Nat) (csz1 csz2 : List AV) (cpz1 cpz2 : Option Nat) :
    ∀ (x : Nat) (kvs : List (Nat × AV)) (σ : St), (x ≤ 10 ∧ kvs = [(1, .ref 0 0), (2, .ref 1 0), (3, .ref 2 0), (4, .ref 3 0), (5, .int .i64 (x + 1 : Nat))] ∧
        ∃ sv os, ((tbsM w codes x = [] ∧ sv = nilS ∧ os = []) ∨ ∃ cs, sv = .rsl 4 0 (tbsM w codes x).length none ∧ os = [some (.cells cs 32 true)] ∧ ElsA (tbsM w codes x) cs ∧ cs.length = (tbsM w codes x).length * 5 ∧ tagLeL 0 cs = true) ∧
          σ = ⟨some (.cells ck 25 false) :: some (.cells [.int .u8 zc, .bool zk, .int .u32 zn, .lsl nlz1 0 csz1 lenz1 cpz1, .lsl nlz2 0 csz2 lenz2 cpz2] 32 false) :: some (.cells ((hasM w).map AV.bool) 34 false) :: some (.cells [.int .u8 ec, .bool ek, .int .u32 en, nilS, sv] 32 false) :: os, 0⟩) →
      ∃ ae kvs' σ', (ae = .exit 0 ∧ kvs' = [(1, .ref 0 0), (2, .ref 1 0), (4, .ref 2 0)] ∧
        ∃ sv os, ((tbsM w codes 10 = [] ∧ sv = nilS ∧ os = []) ∨ ∃ cs, sv = .rsl 3 0 (tbsM w codes 10).length none ∧ os = [some (.cells cs 32 true)] ∧ ElsA (tbsM w codes 10) cs ∧ tagLeL 0 cs = true) ∧
          σ' = ⟨some (.cells ck 25 false) :: some (.cells [.int .u8 zc, .bool zk, .int .u32 zn, .lsl nlz1 0 csz1 lenz1 cpz1, .lsl nlz2 0 csz2 lenz2 cpz2] 32 false) :: some (.cells [.int .u8 ec, .bool ek, .int .u32 en, nilS, sv] 32 false) :: os, 0⟩) ∧
        Cd 0 (.loop (bodyL Tryd.f9 0)) (frOf 33 kvs) σ ae (frOf 33 kvs') σ' := by
  have htag := h.tag
  have hka := h
  obtain ⟨_, _, _, _, _, _, _, _, _, _, _, _, _, _, _, _, _, _, _, _, _, _, _, _, _, _, _, _, _, _, _, _, _, _, _, _, _, _, _, _, _, _, _, _, _, _, _, _, _, _, _, _, hck⟩ := h.out
  refine loop_by (tb := tb_r9) (f := 9) (c := bodyL Tryd.f9 0) (k := 0) (N := 33) (keepN := [1, 2, 3, 4, 5]) (keepX := [1, 2, 4]) env_ok _ _ (fun x => 10 - x) ?_
  rintro i kvs σ ⟨hi, rfl, sv, os, hos, rfl⟩
  have hw : IntKind.i64.wrap (((i + 1 : Nat) : Int) + 1) = ((i + 1 + 1 : Nat) : Int) := by rw [wrap_small (by omega) (by omega)]; simp
  obtain ⟨r, hr⟩ := bools_at2 (hasM w) (i + 1) (by rw [hasM_len]; omega)
  have hd : List.drop (0 + Int.toNat ((i + 1 : Nat) : Int) * 1) ((hasM w).map AV.bool) = .bool ((hasM w).getD (i + 1) false) :: r := by rw [Int.toNat_natCast, Nat.mul_one, Nat.zero_add]; exact hr
  have hll := tbsM_len w codes i
  have htb : tagLeL 0 ((hasM w).map AV.bool) = true := tagLeL_bools _
  have hyes : (hasM w).getD (i + 1) false = true → tbsM w codes (i + 1) = tbsM w codes i ++ [partM w codes (i + 1)] := fun hh => by
    show tbsM w codes i ++ _ = _
    rw [if_pos hh]
  have hno : ¬ (hasM w).getD (i + 1) false = true → tbsM w codes (i + 1) = tbsM w codes i := fun hh => by
    show tbsM w codes i ++ _ = _
    rw [if_neg hh, List.append_nil]
  rcases hos with ⟨hz, rfl, rfl⟩ | ⟨cs, rfl, rfl, hA, hAl, hAt⟩
  · change roundT _ _ tb_r9n _ _ _ _ _ _ _ _ _
    rw [r9n]
    refine br_i (fun hlt => ?_) (fun hge => ?_)
    · have hlt : i < 10 := by have := of_decide_eq_true hlt; omega
      obtain ⟨pc, hpc, hsm⟩ := sum13 hka h0 h1 hb (p := i + 1) (by omega)
      have hpt := hpc.tag
      have hpl := hpc.len
      obtain ⟨_, _, _, _, _, _, _, _, _, _, _, hpe⟩ := hpc.cells
      refine ⟨by omega, by omega, _, _, hd, br_i (fun hh => ?_) (fun hh => ?_)⟩
      · rw [hck] at hsm
        rw [hpe] at hsm
        refine ⟨_, _, _, _, _, _, _, _, _, _, _, _, _, _, _, _, _, _, _, _, _, _, _, _, _, _, _, _, _, _, _, _, _, _, _, _, _, _, _, _, _, _, _, _, _, _, _, _, _, _, _, _, _, _, hck, _, _, _, _, _, _, _, _, _, _, _, hsm, by omega, .inl rfl, by omega, by omega, by omega, htag, htb, rfl, ?_⟩
        rw [hw]
        refine ⟨i + 1, by omega, ⟨by omega, rfl, _, _, .inr ⟨pc, ?_, ?_, ?_, ?_, hpt⟩, rfl⟩, fun _ _ _ h => h⟩
        · rw [hyes hh, hz]; rfl
        · rw [hpe]
        · rw [hyes hh, hz]; simp only [List.nil_append, ElsA]; exact ⟨pc, [], by simp, hpc, trivial⟩
        · rw [hyes hh, hz, hpl]; rfl
      · refine ⟨htag, htb, ?_⟩
        rw [hw]
        refine ⟨i + 1, by omega, ⟨by omega, rfl, nilS, [], .inl ⟨?_, rfl, rfl⟩, rfl⟩, fun _ _ _ h => h⟩
        rw [hno (by rw [hh]; simp), hz]
    · have hge : i = 10 := by have := of_decide_eq_false hge; omega
      subst hge
      exact ⟨htag, rfl, rfl, nilS, [], .inl ⟨hz, rfl, rfl⟩, rfl⟩
  · change roundT _ _ tb_r9 _ _ _ _ _ _ _ _ _
    rw [r9]
    refine br_i (fun hlt => ?_) (fun hge => ?_)
    · have hlt : i < 10 := by have := of_decide_eq_true hlt; omega
      obtain ⟨pc, hpc, hsm⟩ := sum13 hka h0 h1 hb (p := i + 1) (by omega)
      have hpt := hpc.tag
      have hpl := hpc.len
      have hsn := Acc.snoc_g hA hAl hAt hpc
      have hsn2 := hA.snoc hAl hpc (r := [])
      obtain ⟨_, _, _, _, _, _, _, _, _, _, _, hpe⟩ := hpc.cells
      refine ⟨by omega, by omega, _, _, hd, br_i (fun hh => ?_) (fun hh => ?_)⟩
      · rw [hck] at hsm
        rw [hpe] at hsm
        refine ⟨_, _, _, _, _, _, _, _, _, _, _, _, _, _, _, _, _, _, _, _, _, _, _, _, _, _, _, _, _, _, _, _, _, _, _, _, _, _, _, _, _, _, _, _, _, _, _, _, _, _, _, _, _, _, hck, _, _, _, _, _, _, _, _, _, _, _, hsm, by omega, hAl, by omega, by omega, htag, htb, by rw [← hpe]; exact hsn.1, ?_⟩
        rw [hw]
        refine ⟨i + 1, by omega, ⟨by omega, rfl, _, _, .inr ⟨cs ++ pc, ?_, ?_, ?_, ?_, hsn.1⟩, rfl⟩, fun _ _ _ h => h⟩
        · rw [hyes hh]; simp
        · rw [hpe]
        · rw [hyes hh]; simpa using hsn2
        · rw [hyes hh]; simp [hAl, hpl]; omega
      · refine ⟨htag, htb, hAt, ?_⟩
        rw [hw]
        refine ⟨i + 1, by omega, ⟨by omega, rfl, _, _, .inr ⟨cs, ?_, rfl, ?_, ?_, hAt⟩, rfl⟩, fun _ _ _ h => h⟩
        · rw [hno (by rw [hh]; simp)]
        · rw [hno (by rw [hh]; simp)]; exact hA
        · rw [hno (by rw [hh]; simp)]; exact hAl
    · have hge : i = 10 := by have := of_decide_eq_false hge; omega
      subst hge
      exact ⟨htag, hAt, rfl, rfl, _, _, .inr ⟨cs, rfl, rfl, hA, hAt⟩, rfl⟩

theorem sum9 {w : Int} {codes : List (List Int)} {ck : List AV} (h : KA w codes ck) (h0 : 0 ≤ w) (h1 : w < 256) (hb : ∀ c ∈ codes, Byt c) : ∃ cells, ElA (kOf w codes) cells ∧ Sm 9 [.agg ck] (.agg cells) := by
  have hka := h
  have s10 := sum10 h h0 h1
  have s28 : Sm 28 [.int .u8 0] (.agg [.int .u8 0, .bool true, .int .u32 16]) := sum28 0
  obtain ⟨c11, h11, s11⟩ := sum13 hka h0 h1 hb (p := 11) (by omega)
  obtain ⟨c12, h12, s12⟩ := sum13 hka h0 h1 hb (p := 12) (by omega)
  have hl := tbsM_len w codes 10
  obtain ⟨_, _, _, _, _, _, _, _, _, _, _, _, _, _, _, _, _, _, _, _, _, _, _, _, _, _, _, _, _, _, _, _, _, _, _, _, _, _, _, _, _, _, _, _, _, _, _, _, _, _, _, _, rfl⟩ := h.out
  refine sum_fn (fun c => .agg c) _ (vc9 ..) ?_
  obtain ⟨ae, kvs', σ', ⟨rfl, rfl, sv, os, hos, rfl⟩, hcd⟩ := loop9 hka h0 h1 hb 0 0 0 16 false true true true 0 0 [] [] (some 0) (some 0) 0 _ _ ⟨by omega, rfl, nilS, [], .inl ⟨rfl, rfl, rfl⟩, rfl⟩
  have fin : ∀ {tc : List AV}, ElA (.mk 0 true 16 [] (tbsM w codes 10)) tc → ElA (kOf w codes) [.int .u8 0, .bool true, .int .u32 16, nilS, .lsl false 0 (tc ++ (c11 ++ c12)) 3 (some 3)] := by
    intro tc htc
    refine elA_cells si_nil0 ⟨false, _, some 3, rfl, capOk_some, by simp, by simp, ?_⟩
    simp only [ElsA]
    exact ⟨tc, c11 ++ c12, rfl, htc, c11, c12, rfl, h11, c12, [], by simp, h12, trivial⟩
  obtain ⟨_, _, _, _, _, _, _, _, _, _, _, e11⟩ := h11.cells
  obtain ⟨_, _, _, _, _, _, _, _, _, _, _, e12⟩ := h12.cells
  rw [e11] at s11
  rw [e12] at s12
  rw [e11, e12] at fin
  refine ⟨_, _, _, _, _, _, _, _, _, _, _, _, _, s10, _, _, _, s28, ?_⟩
  rcases hos with ⟨hz, rfl, rfl⟩ | ⟨cs, rfl, rfl, hA, hAt⟩
  · refine .inl ⟨hcd, _, _, _, s28, _, _, _, _, _, _, _, _, _, _, _, s11, _, _, _, _, _, _, _, _, _, _, _, s12, _, rfl, ?_⟩
    exact fin (by rw [hz]; exact elA_cells si_nil0 se_nil)
  · refine .inr ⟨_, _, hcd, _, _, _, s28, _, _, _, _, _, _, _, _, _, _, _, s11, _, _, _, _, _, _, _, _, _, _, _, s12, hAt, _, rfl, ?_⟩
    exact fin (elA_cells si_nil0 ⟨false, cs, none, rfl, capOk_none, by omega, by simp, hA⟩)

end Go.Vid
