/-
skeletons.Of: a summary.
-/
import Derived.Test.YtnjlocjikfbgdaaDoorWD
set_option linter.all false
namespace Go.Vid
open Go.Proofs
set_option maxRecDepth 100000
set_option linter.unusedVariables false
section
open AExit AOut AV IntKind
abbrev tb_r20 : List (FuncId × Sc) := [(20, { ops := [(18, [(3, Kd.fz), (5, Kd.w), (6, Kd.w)]), (16, [(1, Kd.w)])], lax := [62] })]
theorem r20 (i fe ec en ge : Int) (nlt nlf ek nle1 nle2 nlg : Bool) (lent lenf lene1 lene2 leng : Nat) (cst csf cse1 cse2 csg css : List AV) (cpt cpf cpe1 cpe2 cpg : Option Nat) (K : AExit → List (Nat × AV) → St → Prop) : (roundT Tryd.prog env tb_r20 20 (bodyL Tryd.f20 0) 0 162 [2, 3, 8, 10, 11, 73, 74, 75] [2, 3, 8, 10, 11] [(2, ref 0 0), (3, ref 1 0), (8, ref 2 0), (10, ref 3 0), (11, ref 4 0), (73, lsl nlt 0 cst lent cpt), (74, int i64 (↑lent : Int)), (75, int i64 i)] ⟨[some (AObj.cells skel0 62 false), some (AObj.cells [lsl nlf 0 csf lenf cpf, int i64 fe] 50 false), some (AObj.cells [int u8 ec, AV.bool ek, int u32 en, lsl nle1 0 cse1 lene1 cpe1, lsl nle2 0 cse2 lene2 cpe2] 32 false), some (AObj.cells [lsl nlg 0 csg leng cpg, int i64 ge] 50 false), some (AObj.cells css 62 false)], 0⟩ K) =
    (br (decide (i < (↑lent : Int))) (nlt = false ∧ (0 : Int) ≤ i ∧ i < (↑lent : Int) ∧ ∃ z1 cs2, List.drop (Int.toNat i * 1) cst = int i64 z1 :: cs2 ∧ br (decide (z1 ≥ (0 : Int))) ((0 : Int) ≤ wrap i64 ((1 : Int) + i) ∧ wrap i64 ((1 : Int) + i) < (13 : Int) ∧ 1 + Int.toNat (wrap i64 ((1 : Int) + i)) * 1 + 1 ≤ List.length css ∧ true = true ∧ tagLeL 0 (putL css (1 + Int.toNat (wrap i64 ((1 : Int) + i)) * 1) [lsl false 0 [int i64 0, int i64 z1] 2 (some 2)]) = true ∧ K normal [(2, ref 0 0), (3, ref 1 0), (8, ref 2 0), (10, ref 3 0), (11, ref 4 0), (73, lsl nlt 0 cst lent cpt), (74, int i64 (↑lent : Int)), (75, int i64 (wrap i64 (i + (1 : Int))))] ⟨[some (AObj.cells skel0 62 false), some (AObj.cells [lsl nlf 0 csf lenf cpf, int i64 fe] 50 false), some (AObj.cells [int u8 ec, AV.bool ek, int u32 en, lsl nle1 0 cse1 lene1 cpe1, lsl nle2 0 cse2 lene2 cpe2] 32 false), some (AObj.cells [lsl nlg 0 csg leng cpg, int i64 ge] 50 false), some (AObj.cells (putL css (1 + Int.toNat (wrap i64 ((1 : Int) + i)) * 1) [lsl false 0 [int i64 0, int i64 z1] 2 (some 2)]) 62 false)], 0⟩) (true = true ∧ tagLeL 0 css = true ∧ K normal [(2, ref 0 0), (3, ref 1 0), (8, ref 2 0), (10, ref 3 0), (11, ref 4 0), (73, lsl nlt 0 cst lent cpt), (74, int i64 (↑lent : Int)), (75, int i64 (wrap i64 (i + (1 : Int))))] ⟨[some (AObj.cells skel0 62 false), some (AObj.cells [lsl nlf 0 csf lenf cpf, int i64 fe] 50 false), some (AObj.cells [int u8 ec, AV.bool ek, int u32 en, lsl nle1 0 cse1 lene1 cpe1, lsl nle2 0 cse2 lene2 cpe2] 32 false), some (AObj.cells [lsl nlg 0 csg leng cpg, int i64 ge] 50 false), some (AObj.cells css 62 false)], 0⟩)) (true = true ∧ tagLeL 0 css = true ∧ K (exit 0) [(2, ref 0 0), (3, ref 1 0), (8, ref 2 0), (10, ref 3 0), (11, ref 4 0)] ⟨[some (AObj.cells skel0 62 false), some (AObj.cells [lsl nlf 0 csf lenf cpf, int i64 fe] 50 false), some (AObj.cells [int u8 ec, AV.bool ek, int u32 en, lsl nle1 0 cse1 lene1 cpe1, lsl nle2 0 cse2 lene2 cpe2] 32 false), some (AObj.cells [lsl nlg 0 csg leng cpg, int i64 ge] 50 false), some (AObj.cells css 62 false)], 0⟩)) := by kernel_rfl
theorem vc20 (ec en : Int) (ek nle1 nle2 : Bool) (lene1 lene2 : Nat) (cse1 cse2 : List AV) (cpe1 cpe2 : Option Nat) (K : AOut → Prop) : (dataT Tryd.prog env [(20, { ops := [(13, [(0, Kd.fz), (1, Kd.fz), (2, Kd.fz)]), (8, [(2, Kd.w)]), (21, [(2, Kd.w)]), (29, [(3, Kd.w), (5, Kd.w)]), (31, [(3, Kd.b), (6, Kd.w), (10, Kd.w)])], loops := [(0, LoopS.inv [2, 3, 8, 10, 11, 73, 74, 75] fun _ σ => Sh.int fun k1 => Sh.int fun k2 => Sh.int fun k3 => Sh.int fun k4 => Sh.int fun k5 => Sh.int fun k6 => Sh.int fun k7 => Sh.int fun k8 => Sh.int fun k9 => Sh.int fun k10 => Sh.one (exit 0, [(2, ref 0 0), (3, ref 1 0), (8, ref 2 0), (10, ref 3 0), (11, ref 4 0)], ⟨[List.getD (St.objs σ) 0 none, List.getD (St.objs σ) 1 none, List.getD (St.objs σ) 2 none, List.getD (St.objs σ) 3 none, some (AObj.cells (skC (1 : Int) k1 k2 k3 k4 k5 k6 k7 k8 k9 k10) 62 false)], 0⟩))], lax := [62], shs := [(42, shF42)] }), (45, { loops := [(3, LoopS.unroll 3)], inl := true })] 20 [agg [int u8 ec, AV.bool ek, int u32 en, lsl nle1 0 cse1 lene1 cpe1, lsl nle2 0 cse2 lene2 cpe2]] K) =
    (∃ z1, Sm 37 [agg [int u8 ec, AV.bool ek, int u32 en, lsl nle1 0 cse1 lene1 cpe1, lsl nle2 0 cse2 lene2 cpe2]] ((int i64 z1)) ∧ br (z1 != (0 : Int)) (∃ b2 cs3 n4 cp5 z6, Sm 42 [agg [nilS, int i64 z1], nilS] ((tup [agg skel0, agg [lsl b2 0 cs3 n4 cp5, int i64 z6]])) ∧ K (AOut.ret (tup [agg skel0, agg [lsl b2 0 cs3 n4 cp5, int i64 z6]]))) (∃ b7 cs8 n9 cp10 b11 cs12 n13 cp14 z15, Sm 43 [agg [int u8 ec, AV.bool ek, int u32 en, lsl nle1 0 cse1 lene1 cpe1, lsl nle2 0 cse2 lene2 cpe2], agg [int u8 0, AV.bool true, int u32 16], lsl false 0 [int u8 0, AV.bool true, int u32 16, AV.bool false, AV.bool false, int u8 0, AV.bool true, int u32 16, AV.bool false, AV.bool false, int u8 0, AV.bool false, int u32 3, AV.bool false, AV.bool false] 3 none] ((tup [lsl b7 0 cs8 n9 cp10, agg [lsl b11 0 cs12 n13 cp14, int i64 z15]])) ∧ br (z15 != (0 : Int)) (∃ b16 cs17 n18 cp19 z20, Sm 42 [agg [lsl b11 0 cs12 n13 cp14, int i64 z15], nilS] ((tup [agg skel0, agg [lsl b16 0 cs17 n18 cp19, int i64 z20]])) ∧ K (AOut.ret (tup [agg skel0, agg [lsl b16 0 cs17 n18 cp19, int i64 z20]]))) (nle2 = false ∧ (0 : Int) ≤ (0 : Int) ∧ (0 : Int) < (↑lene2 : Int) ∧ ∃ z21 b22 z23 b24 cs25 n26 cp27 b28 cs29 n30 cp31 cs32, cse2 = int u8 z21 :: AV.bool b22 :: int u32 z23 :: lsl b24 0 cs25 n26 cp27 :: lsl b28 0 cs29 n30 cp31 :: cs32 ∧ ∃ b33 cs34 n35 cp36 b37 cs38 n39 cp40 z41, Sm 43 [agg [int u8 z21, AV.bool b22, int u32 z23, lsl b24 0 cs25 n26 cp27, lsl b28 0 cs29 n30 cp31], agg [int u8 0, AV.bool true, int u32 16], lsl false 0 [int u8 2, AV.bool true, int u32 0, AV.bool false, AV.bool true, int u8 0, AV.bool false, int u32 2, AV.bool false, AV.bool false, int u8 0, AV.bool true, int u32 16, AV.bool false, AV.bool false, int u8 0, AV.bool true, int u32 16, AV.bool false, AV.bool false, int u8 0, AV.bool true, int u32 16, AV.bool false, AV.bool false, int u8 0, AV.bool true, int u32 16, AV.bool false, AV.bool false, int u8 0, AV.bool true, int u32 16, AV.bool false, AV.bool false, int u8 2, AV.bool false, int u32 1, AV.bool false, AV.bool true, int u8 2, AV.bool false, int u32 2, AV.bool false, AV.bool true, int u8 2, AV.bool true, int u32 3, AV.bool false, AV.bool true, int u8 0, AV.bool true, int u32 16, AV.bool false, AV.bool false, int u8 0, AV.bool false, int u32 3, AV.bool false, AV.bool false] 10 (some 10)] ((tup [lsl b33 0 cs34 n35 cp36, agg [lsl b37 0 cs38 n39 cp40, int i64 z41]])) ∧ br (z41 != (0 : Int)) (∃ b42 cs43 n44 cp45 z46, Sm 42 [agg [lsl b37 0 cs38 n39 cp40, int i64 z41], lsl false 0 [int i64 0] 1 (some 1)] ((tup [agg skel0, agg [lsl b42 0 cs43 n44 cp45, int i64 z46]])) ∧ K (AOut.ret (tup [agg skel0, agg [lsl b42 0 cs43 n44 cp45, int i64 z46]]))) (true = true ∧ true = true ∧ ∃ z47 z48 z49 z50 z51 z52 z53 z54 z55 z56, Cd 0 (Code.loop (bodyL Tryd.f20 0)) (frOf 162 [(2, ref 0 0), (3, ref 1 0), (8, ref 2 0), (10, ref 3 0), (11, ref 4 0), (73, lsl b33 0 cs34 n35 cp36), (74, int i64 (↑n35 : Int)), (75, int i64 0)]) ⟨[some (AObj.cells skel0 62 false), some (AObj.cells [nilS, int i64 0] 50 false), some (AObj.cells [int u8 z21, AV.bool b22, int u32 z23, lsl b24 0 cs25 n26 cp27, lsl b28 0 cs29 n30 cp31] 32 false), some (AObj.cells [lsl b37 0 cs38 n39 cp40, int i64 z41] 50 false), some (AObj.cells [int i64 1, lsl false 0 [int i64 0] 1 (some 1), nilS, nilS, nilS, nilS, nilS, nilS, nilS, nilS, nilS, nilS, lsl false 0 [int i64 1] 1 (some 1), lsl false 0 [int i64 2] 1 (some 1)] 62 false)], 0⟩ (exit 0) (frOf 162 [(2, ref 0 0), (3, ref 1 0), (8, ref 2 0), (10, ref 3 0), (11, ref 4 0)]) ⟨[some (AObj.cells skel0 62 false), some (AObj.cells [nilS, int i64 0] 50 false), some (AObj.cells [int u8 z21, AV.bool b22, int u32 z23, lsl b24 0 cs25 n26 cp27, lsl b28 0 cs29 n30 cp31] 32 false), some (AObj.cells [lsl b37 0 cs38 n39 cp40, int i64 z41] 50 false), some (AObj.cells [int i64 1, lsl false 0 [int i64 0] 1 (some 1), lsl (decide (z47 < (0 : Int))) 0 (pc z47) (pl z47) (some (pl z47)), lsl (decide (z48 < (0 : Int))) 0 (pc z48) (pl z48) (some (pl z48)), lsl (decide (z49 < (0 : Int))) 0 (pc z49) (pl z49) (some (pl z49)), lsl (decide (z50 < (0 : Int))) 0 (pc z50) (pl z50) (some (pl z50)), lsl (decide (z51 < (0 : Int))) 0 (pc z51) (pl z51) (some (pl z51)), lsl (decide (z52 < (0 : Int))) 0 (pc z52) (pl z52) (some (pl z52)), lsl (decide (z53 < (0 : Int))) 0 (pc z53) (pl z53) (some (pl z53)), lsl (decide (z54 < (0 : Int))) 0 (pc z54) (pl z54) (some (pl z54)), lsl (decide (z55 < (0 : Int))) 0 (pc z55) (pl z55) (some (pl z55)), lsl (decide (z56 < (0 : Int))) 0 (pc z56) (pl z56) (some (pl z56)), lsl false 0 [int i64 1] 1 (some 1), lsl false 0 [int i64 2] 1 (some 1)] 62 false)], 0⟩ ∧ br (decide ((↑(pl z47) : Int) > (0 : Int))) (b28 = false ∧ (0 : Int) ≤ (0 : Int) ∧ (0 : Int) < (↑n30 : Int) ∧ ∃ z57 b58 z59 b60 cs61 n62 cp63 b64 cs65 n66 cp67 cs68, cs29 = int u8 z57 :: AV.bool b58 :: int u32 z59 :: lsl b60 0 cs61 n62 cp63 :: lsl b64 0 cs65 n66 cp67 :: cs68 ∧ ∃ z69 b70 cs71 n72 cp73 z74, Sm 44 [agg [int u8 z57, AV.bool b58, int u32 z59, lsl b60 0 cs61 n62 cp63, lsl b64 0 cs65 n66 cp67]] ((tup [int i64 z69, agg [lsl b70 0 cs71 n72 cp73, int i64 z74]])) ∧ br (z74 != (0 : Int)) (∃ b75 cs76 n77 cp78 z79, Sm 42 [agg [lsl b70 0 cs71 n72 cp73, int i64 z74], lsl false 0 [int i64 0, int i64 0] 2 (some 2)] ((tup [agg skel0, agg [lsl b75 0 cs76 n77 cp78, int i64 z79]])) ∧ K (AOut.ret (tup [agg skel0, agg [lsl b75 0 cs76 n77 cp78, int i64 z79]]))) (br (z69 == (1 : Int)) (br (decide ((↑(pl z54) : Int) > (0 : Int))) (∃ b80 cs81 n82 cp83 z84, Sm 42 [agg [nilS, int i64 16], lsl (decide (z54 < (0 : Int))) 0 (pc z54) (pl z54) (some (pl z54))] ((tup [agg skel0, agg [lsl b80 0 cs81 n82 cp83, int i64 z84]])) ∧ K (AOut.ret (tup [agg skel0, agg [lsl b80 0 cs81 n82 cp83, int i64 z84]]))) (br (decide ((↑(pl z55) : Int) > (0 : Int))) (∃ b85 cs86 n87 cp88 z89, Sm 42 [agg [nilS, int i64 16], lsl (decide (z55 < (0 : Int))) 0 (pc z55) (pl z55) (some (pl z55))] ((tup [agg skel0, agg [lsl b85 0 cs86 n87 cp88, int i64 z89]])) ∧ K (AOut.ret (tup [agg skel0, agg [lsl b85 0 cs86 n87 cp88, int i64 z89]]))) (br (decide ((↑(pl z56) : Int) > (0 : Int))) (∃ b90 cs91 n92 cp93 z94, Sm 42 [agg [nilS, int i64 16], lsl (decide (z56 < (0 : Int))) 0 (pc z56) (pl z56) (some (pl z56))] ((tup [agg skel0, agg [lsl b90 0 cs91 n92 cp93, int i64 z94]])) ∧ K (AOut.ret (tup [agg skel0, agg [lsl b90 0 cs91 n92 cp93, int i64 z94]]))) (br (decide ((↑(pl z56) : Int) > (0 : Int))) (decide (z56 < (0 : Int)) = false ∧ (0 : Int) ≤ (1 : Int) ∧ (1 : Int) < (↑(pl z56) : Int) ∧ ∃ z95 cs96, List.drop 1 (pc z56) = int i64 z95 :: cs96 ∧ b28 = false ∧ (0 : Int) ≤ z95 ∧ z95 < (↑n30 : Int) ∧ ∃ z97 b98 z99 b100 cs101 n102 cp103 b104 cs105 n106 cp107 cs108, List.drop (Int.toNat z95 * 5) cs29 = int u8 z97 :: AV.bool b98 :: int u32 z99 :: lsl b100 0 cs101 n102 cp103 :: lsl b104 0 cs105 n106 cp107 :: cs108 ∧ ∃ b109 cs110 n111 cp112 z113, Sm 46 [agg [int u8 z97, AV.bool b98, int u32 z99, lsl b100 0 cs101 n102 cp103, lsl b104 0 cs105 n106 cp107], int u32 3] ((agg [lsl b109 0 cs110 n111 cp112, int i64 z113])) ∧ br (z113 == (0 : Int)) (b104 = false ∧ (0 : Int) ≤ (0 : Int) ∧ (0 : Int) < (↑n106 : Int) ∧ ∃ z114 b115 z116 b117 cs118 n119 cp120 b121 cs122 n123 cp124 cs125, cs105 = int u8 z114 :: AV.bool b115 :: int u32 z116 :: lsl b117 0 cs118 n119 cp120 :: lsl b121 0 cs122 n123 cp124 :: cs125 ∧ br (!(z114 == (0 : Int) && (b115 == true && z116 == (16 : Int)))) (∃ b126 cs127 n128 cp129 z130, Sm 47 [int i64 0, agg [nilS, int i64 9]] ((agg [lsl b126 0 cs127 n128 cp129, int i64 z130])) ∧ br (z130 != (0 : Int)) (∃ b131 cs132 n133 cp134 z135, Sm 42 [agg [lsl b126 0 cs127 n128 cp129, int i64 z130], lsl (decide (z56 < (0 : Int))) 0 (pc z56) (pl z56) (some (pl z56))] ((tup [agg skel0, agg [lsl b131 0 cs132 n133 cp134, int i64 z135]])) ∧ K (AOut.ret (tup [agg skel0, agg [lsl b131 0 cs132 n133 cp134, int i64 z135]]))) (K (AOut.ret (tup [agg [int i64 z69, lsl false 0 [int i64 0] 1 (some 1), lsl (decide (z47 < (0 : Int))) 0 (pc z47) (pl z47) (some (pl z47)), lsl (decide (z48 < (0 : Int))) 0 (pc z48) (pl z48) (some (pl z48)), lsl (decide (z49 < (0 : Int))) 0 (pc z49) (pl z49) (some (pl z49)), lsl (decide (z50 < (0 : Int))) 0 (pc z50) (pl z50) (some (pl z50)), lsl (decide (z51 < (0 : Int))) 0 (pc z51) (pl z51) (some (pl z51)), lsl (decide (z52 < (0 : Int))) 0 (pc z52) (pl z52) (some (pl z52)), lsl (decide (z53 < (0 : Int))) 0 (pc z53) (pl z53) (some (pl z53)), lsl (decide (z54 < (0 : Int))) 0 (pc z54) (pl z54) (some (pl z54)), lsl (decide (z55 < (0 : Int))) 0 (pc z55) (pl z55) (some (pl z55)), lsl (decide (z56 < (0 : Int))) 0 (pc z56) (pl z56) (some (pl z56)), lsl false 0 [int i64 1] 1 (some 1), lsl false 0 [int i64 2] 1 (some 1)], agg [nilS, int i64 0]])))) (br (z113 != (0 : Int)) (∃ b136 cs137 n138 cp139 z140, Sm 42 [agg [lsl b109 0 cs110 n111 cp112, int i64 z113], lsl (decide (z56 < (0 : Int))) 0 (pc z56) (pl z56) (some (pl z56))] ((tup [agg skel0, agg [lsl b136 0 cs137 n138 cp139, int i64 z140]])) ∧ K (AOut.ret (tup [agg skel0, agg [lsl b136 0 cs137 n138 cp139, int i64 z140]]))) (K (AOut.ret (tup [agg [int i64 z69, lsl false 0 [int i64 0] 1 (some 1), lsl (decide (z47 < (0 : Int))) 0 (pc z47) (pl z47) (some (pl z47)), lsl (decide (z48 < (0 : Int))) 0 (pc z48) (pl z48) (some (pl z48)), lsl (decide (z49 < (0 : Int))) 0 (pc z49) (pl z49) (some (pl z49)), lsl (decide (z50 < (0 : Int))) 0 (pc z50) (pl z50) (some (pl z50)), lsl (decide (z51 < (0 : Int))) 0 (pc z51) (pl z51) (some (pl z51)), lsl (decide (z52 < (0 : Int))) 0 (pc z52) (pl z52) (some (pl z52)), lsl (decide (z53 < (0 : Int))) 0 (pc z53) (pl z53) (some (pl z53)), lsl (decide (z54 < (0 : Int))) 0 (pc z54) (pl z54) (some (pl z54)), lsl (decide (z55 < (0 : Int))) 0 (pc z55) (pl z55) (some (pl z55)), lsl (decide (z56 < (0 : Int))) 0 (pc z56) (pl z56) (some (pl z56)), lsl false 0 [int i64 1] 1 (some 1), lsl false 0 [int i64 2] 1 (some 1)], agg [nilS, int i64 0]]))))) (br (z113 != (0 : Int)) (∃ b141 cs142 n143 cp144 z145, Sm 42 [agg [lsl b109 0 cs110 n111 cp112, int i64 z113], lsl (decide (z56 < (0 : Int))) 0 (pc z56) (pl z56) (some (pl z56))] ((tup [agg skel0, agg [lsl b141 0 cs142 n143 cp144, int i64 z145]])) ∧ K (AOut.ret (tup [agg skel0, agg [lsl b141 0 cs142 n143 cp144, int i64 z145]]))) (K (AOut.ret (tup [agg [int i64 z69, lsl false 0 [int i64 0] 1 (some 1), lsl (decide (z47 < (0 : Int))) 0 (pc z47) (pl z47) (some (pl z47)), lsl (decide (z48 < (0 : Int))) 0 (pc z48) (pl z48) (some (pl z48)), lsl (decide (z49 < (0 : Int))) 0 (pc z49) (pl z49) (some (pl z49)), lsl (decide (z50 < (0 : Int))) 0 (pc z50) (pl z50) (some (pl z50)), lsl (decide (z51 < (0 : Int))) 0 (pc z51) (pl z51) (some (pl z51)), lsl (decide (z52 < (0 : Int))) 0 (pc z52) (pl z52) (some (pl z52)), lsl (decide (z53 < (0 : Int))) 0 (pc z53) (pl z53) (some (pl z53)), lsl (decide (z54 < (0 : Int))) 0 (pc z54) (pl z54) (some (pl z54)), lsl (decide (z55 < (0 : Int))) 0 (pc z55) (pl z55) (some (pl z55)), lsl (decide (z56 < (0 : Int))) 0 (pc z56) (pl z56) (some (pl z56)), lsl false 0 [int i64 1] 1 (some 1), lsl false 0 [int i64 2] 1 (some 1)], agg [nilS, int i64 0]]))))) (K (AOut.ret (tup [agg [int i64 z69, lsl false 0 [int i64 0] 1 (some 1), lsl (decide (z47 < (0 : Int))) 0 (pc z47) (pl z47) (some (pl z47)), lsl (decide (z48 < (0 : Int))) 0 (pc z48) (pl z48) (some (pl z48)), lsl (decide (z49 < (0 : Int))) 0 (pc z49) (pl z49) (some (pl z49)), lsl (decide (z50 < (0 : Int))) 0 (pc z50) (pl z50) (some (pl z50)), lsl (decide (z51 < (0 : Int))) 0 (pc z51) (pl z51) (some (pl z51)), lsl (decide (z52 < (0 : Int))) 0 (pc z52) (pl z52) (some (pl z52)), lsl (decide (z53 < (0 : Int))) 0 (pc z53) (pl z53) (some (pl z53)), lsl (decide (z54 < (0 : Int))) 0 (pc z54) (pl z54) (some (pl z54)), lsl (decide (z55 < (0 : Int))) 0 (pc z55) (pl z55) (some (pl z55)), lsl (decide (z56 < (0 : Int))) 0 (pc z56) (pl z56) (some (pl z56)), lsl false 0 [int i64 1] 1 (some 1), lsl false 0 [int i64 2] 1 (some 1)], agg [nilS, int i64 0]]))))))) (br (z69 == (2 : Int)) (br (decide ((↑(pl z56) : Int) > (0 : Int))) (∃ b146 cs147 n148 cp149 z150, Sm 42 [agg [nilS, int i64 16], lsl (decide (z56 < (0 : Int))) 0 (pc z56) (pl z56) (some (pl z56))] ((tup [agg skel0, agg [lsl b146 0 cs147 n148 cp149, int i64 z150]])) ∧ K (AOut.ret (tup [agg skel0, agg [lsl b146 0 cs147 n148 cp149, int i64 z150]]))) (br (decide ((↑(pl z56) : Int) > (0 : Int))) (decide (z56 < (0 : Int)) = false ∧ (0 : Int) ≤ (1 : Int) ∧ (1 : Int) < (↑(pl z56) : Int) ∧ ∃ z151 cs152, List.drop 1 (pc z56) = int i64 z151 :: cs152 ∧ b28 = false ∧ (0 : Int) ≤ z151 ∧ z151 < (↑n30 : Int) ∧ ∃ z153 b154 z155 b156 cs157 n158 cp159 b160 cs161 n162 cp163 cs164, List.drop (Int.toNat z151 * 5) cs29 = int u8 z153 :: AV.bool b154 :: int u32 z155 :: lsl b156 0 cs157 n158 cp159 :: lsl b160 0 cs161 n162 cp163 :: cs164 ∧ ∃ b165 cs166 n167 cp168 z169, Sm 46 [agg [int u8 z153, AV.bool b154, int u32 z155, lsl b156 0 cs157 n158 cp159, lsl b160 0 cs161 n162 cp163], int u32 3] ((agg [lsl b165 0 cs166 n167 cp168, int i64 z169])) ∧ br (z169 == (0 : Int)) (b160 = false ∧ (0 : Int) ≤ (0 : Int) ∧ (0 : Int) < (↑n162 : Int) ∧ ∃ z170 b171 z172 b173 cs174 n175 cp176 b177 cs178 n179 cp180 cs181, cs161 = int u8 z170 :: AV.bool b171 :: int u32 z172 :: lsl b173 0 cs174 n175 cp176 :: lsl b177 0 cs178 n179 cp180 :: cs181 ∧ br (!(z170 == (0 : Int) && (b171 == true && z172 == (16 : Int)))) (∃ b182 cs183 n184 cp185 z186, Sm 47 [int i64 0, agg [nilS, int i64 9]] ((agg [lsl b182 0 cs183 n184 cp185, int i64 z186])) ∧ br (z186 != (0 : Int)) (∃ b187 cs188 n189 cp190 z191, Sm 42 [agg [lsl b182 0 cs183 n184 cp185, int i64 z186], lsl (decide (z56 < (0 : Int))) 0 (pc z56) (pl z56) (some (pl z56))] ((tup [agg skel0, agg [lsl b187 0 cs188 n189 cp190, int i64 z191]])) ∧ K (AOut.ret (tup [agg skel0, agg [lsl b187 0 cs188 n189 cp190, int i64 z191]]))) (K (AOut.ret (tup [agg [int i64 z69, lsl false 0 [int i64 0] 1 (some 1), lsl (decide (z47 < (0 : Int))) 0 (pc z47) (pl z47) (some (pl z47)), lsl (decide (z48 < (0 : Int))) 0 (pc z48) (pl z48) (some (pl z48)), lsl (decide (z49 < (0 : Int))) 0 (pc z49) (pl z49) (some (pl z49)), lsl (decide (z50 < (0 : Int))) 0 (pc z50) (pl z50) (some (pl z50)), lsl (decide (z51 < (0 : Int))) 0 (pc z51) (pl z51) (some (pl z51)), lsl (decide (z52 < (0 : Int))) 0 (pc z52) (pl z52) (some (pl z52)), lsl (decide (z53 < (0 : Int))) 0 (pc z53) (pl z53) (some (pl z53)), lsl (decide (z54 < (0 : Int))) 0 (pc z54) (pl z54) (some (pl z54)), lsl (decide (z55 < (0 : Int))) 0 (pc z55) (pl z55) (some (pl z55)), lsl (decide (z56 < (0 : Int))) 0 (pc z56) (pl z56) (some (pl z56)), lsl false 0 [int i64 1] 1 (some 1), lsl false 0 [int i64 2] 1 (some 1)], agg [nilS, int i64 0]])))) (br (z169 != (0 : Int)) (∃ b192 cs193 n194 cp195 z196, Sm 42 [agg [lsl b165 0 cs166 n167 cp168, int i64 z169], lsl (decide (z56 < (0 : Int))) 0 (pc z56) (pl z56) (some (pl z56))] ((tup [agg skel0, agg [lsl b192 0 cs193 n194 cp195, int i64 z196]])) ∧ K (AOut.ret (tup [agg skel0, agg [lsl b192 0 cs193 n194 cp195, int i64 z196]]))) (K (AOut.ret (tup [agg [int i64 z69, lsl false 0 [int i64 0] 1 (some 1), lsl (decide (z47 < (0 : Int))) 0 (pc z47) (pl z47) (some (pl z47)), lsl (decide (z48 < (0 : Int))) 0 (pc z48) (pl z48) (some (pl z48)), lsl (decide (z49 < (0 : Int))) 0 (pc z49) (pl z49) (some (pl z49)), lsl (decide (z50 < (0 : Int))) 0 (pc z50) (pl z50) (some (pl z50)), lsl (decide (z51 < (0 : Int))) 0 (pc z51) (pl z51) (some (pl z51)), lsl (decide (z52 < (0 : Int))) 0 (pc z52) (pl z52) (some (pl z52)), lsl (decide (z53 < (0 : Int))) 0 (pc z53) (pl z53) (some (pl z53)), lsl (decide (z54 < (0 : Int))) 0 (pc z54) (pl z54) (some (pl z54)), lsl (decide (z55 < (0 : Int))) 0 (pc z55) (pl z55) (some (pl z55)), lsl (decide (z56 < (0 : Int))) 0 (pc z56) (pl z56) (some (pl z56)), lsl false 0 [int i64 1] 1 (some 1), lsl false 0 [int i64 2] 1 (some 1)], agg [nilS, int i64 0]]))))) (br (z169 != (0 : Int)) (∃ b197 cs198 n199 cp200 z201, Sm 42 [agg [lsl b165 0 cs166 n167 cp168, int i64 z169], lsl (decide (z56 < (0 : Int))) 0 (pc z56) (pl z56) (some (pl z56))] ((tup [agg skel0, agg [lsl b197 0 cs198 n199 cp200, int i64 z201]])) ∧ K (AOut.ret (tup [agg skel0, agg [lsl b197 0 cs198 n199 cp200, int i64 z201]]))) (K (AOut.ret (tup [agg [int i64 z69, lsl false 0 [int i64 0] 1 (some 1), lsl (decide (z47 < (0 : Int))) 0 (pc z47) (pl z47) (some (pl z47)), lsl (decide (z48 < (0 : Int))) 0 (pc z48) (pl z48) (some (pl z48)), lsl (decide (z49 < (0 : Int))) 0 (pc z49) (pl z49) (some (pl z49)), lsl (decide (z50 < (0 : Int))) 0 (pc z50) (pl z50) (some (pl z50)), lsl (decide (z51 < (0 : Int))) 0 (pc z51) (pl z51) (some (pl z51)), lsl (decide (z52 < (0 : Int))) 0 (pc z52) (pl z52) (some (pl z52)), lsl (decide (z53 < (0 : Int))) 0 (pc z53) (pl z53) (some (pl z53)), lsl (decide (z54 < (0 : Int))) 0 (pc z54) (pl z54) (some (pl z54)), lsl (decide (z55 < (0 : Int))) 0 (pc z55) (pl z55) (some (pl z55)), lsl (decide (z56 < (0 : Int))) 0 (pc z56) (pl z56) (some (pl z56)), lsl false 0 [int i64 1] 1 (some 1), lsl false 0 [int i64 2] 1 (some 1)], agg [nilS, int i64 0]]))))) (K (AOut.ret (tup [agg [int i64 z69, lsl false 0 [int i64 0] 1 (some 1), lsl (decide (z47 < (0 : Int))) 0 (pc z47) (pl z47) (some (pl z47)), lsl (decide (z48 < (0 : Int))) 0 (pc z48) (pl z48) (some (pl z48)), lsl (decide (z49 < (0 : Int))) 0 (pc z49) (pl z49) (some (pl z49)), lsl (decide (z50 < (0 : Int))) 0 (pc z50) (pl z50) (some (pl z50)), lsl (decide (z51 < (0 : Int))) 0 (pc z51) (pl z51) (some (pl z51)), lsl (decide (z52 < (0 : Int))) 0 (pc z52) (pl z52) (some (pl z52)), lsl (decide (z53 < (0 : Int))) 0 (pc z53) (pl z53) (some (pl z53)), lsl (decide (z54 < (0 : Int))) 0 (pc z54) (pl z54) (some (pl z54)), lsl (decide (z55 < (0 : Int))) 0 (pc z55) (pl z55) (some (pl z55)), lsl (decide (z56 < (0 : Int))) 0 (pc z56) (pl z56) (some (pl z56)), lsl false 0 [int i64 1] 1 (some 1), lsl false 0 [int i64 2] 1 (some 1)], agg [nilS, int i64 0]]))))) (br (decide ((↑(pl z56) : Int) > (0 : Int))) (decide (z56 < (0 : Int)) = false ∧ (0 : Int) ≤ (1 : Int) ∧ (1 : Int) < (↑(pl z56) : Int) ∧ ∃ z202 cs203, List.drop 1 (pc z56) = int i64 z202 :: cs203 ∧ b28 = false ∧ (0 : Int) ≤ z202 ∧ z202 < (↑n30 : Int) ∧ ∃ z204 b205 z206 b207 cs208 n209 cp210 b211 cs212 n213 cp214 cs215, List.drop (Int.toNat z202 * 5) cs29 = int u8 z204 :: AV.bool b205 :: int u32 z206 :: lsl b207 0 cs208 n209 cp210 :: lsl b211 0 cs212 n213 cp214 :: cs215 ∧ ∃ b216 cs217 n218 cp219 z220, Sm 46 [agg [int u8 z204, AV.bool b205, int u32 z206, lsl b207 0 cs208 n209 cp210, lsl b211 0 cs212 n213 cp214], int u32 3] ((agg [lsl b216 0 cs217 n218 cp219, int i64 z220])) ∧ br (z220 == (0 : Int)) (b211 = false ∧ (0 : Int) ≤ (0 : Int) ∧ (0 : Int) < (↑n213 : Int) ∧ ∃ z221 b222 z223 b224 cs225 n226 cp227 b228 cs229 n230 cp231 cs232, cs212 = int u8 z221 :: AV.bool b222 :: int u32 z223 :: lsl b224 0 cs225 n226 cp227 :: lsl b228 0 cs229 n230 cp231 :: cs232 ∧ br (!(z221 == (0 : Int) && (b222 == true && z223 == (16 : Int)))) (∃ b233 cs234 n235 cp236 z237, Sm 47 [int i64 0, agg [nilS, int i64 9]] ((agg [lsl b233 0 cs234 n235 cp236, int i64 z237])) ∧ br (z237 != (0 : Int)) (∃ b238 cs239 n240 cp241 z242, Sm 42 [agg [lsl b233 0 cs234 n235 cp236, int i64 z237], lsl (decide (z56 < (0 : Int))) 0 (pc z56) (pl z56) (some (pl z56))] ((tup [agg skel0, agg [lsl b238 0 cs239 n240 cp241, int i64 z242]])) ∧ K (AOut.ret (tup [agg skel0, agg [lsl b238 0 cs239 n240 cp241, int i64 z242]]))) (K (AOut.ret (tup [agg [int i64 z69, lsl false 0 [int i64 0] 1 (some 1), lsl (decide (z47 < (0 : Int))) 0 (pc z47) (pl z47) (some (pl z47)), lsl (decide (z48 < (0 : Int))) 0 (pc z48) (pl z48) (some (pl z48)), lsl (decide (z49 < (0 : Int))) 0 (pc z49) (pl z49) (some (pl z49)), lsl (decide (z50 < (0 : Int))) 0 (pc z50) (pl z50) (some (pl z50)), lsl (decide (z51 < (0 : Int))) 0 (pc z51) (pl z51) (some (pl z51)), lsl (decide (z52 < (0 : Int))) 0 (pc z52) (pl z52) (some (pl z52)), lsl (decide (z53 < (0 : Int))) 0 (pc z53) (pl z53) (some (pl z53)), lsl (decide (z54 < (0 : Int))) 0 (pc z54) (pl z54) (some (pl z54)), lsl (decide (z55 < (0 : Int))) 0 (pc z55) (pl z55) (some (pl z55)), lsl (decide (z56 < (0 : Int))) 0 (pc z56) (pl z56) (some (pl z56)), lsl false 0 [int i64 1] 1 (some 1), lsl false 0 [int i64 2] 1 (some 1)], agg [nilS, int i64 0]])))) (br (z220 != (0 : Int)) (∃ b243 cs244 n245 cp246 z247, Sm 42 [agg [lsl b216 0 cs217 n218 cp219, int i64 z220], lsl (decide (z56 < (0 : Int))) 0 (pc z56) (pl z56) (some (pl z56))] ((tup [agg skel0, agg [lsl b243 0 cs244 n245 cp246, int i64 z247]])) ∧ K (AOut.ret (tup [agg skel0, agg [lsl b243 0 cs244 n245 cp246, int i64 z247]]))) (K (AOut.ret (tup [agg [int i64 z69, lsl false 0 [int i64 0] 1 (some 1), lsl (decide (z47 < (0 : Int))) 0 (pc z47) (pl z47) (some (pl z47)), lsl (decide (z48 < (0 : Int))) 0 (pc z48) (pl z48) (some (pl z48)), lsl (decide (z49 < (0 : Int))) 0 (pc z49) (pl z49) (some (pl z49)), lsl (decide (z50 < (0 : Int))) 0 (pc z50) (pl z50) (some (pl z50)), lsl (decide (z51 < (0 : Int))) 0 (pc z51) (pl z51) (some (pl z51)), lsl (decide (z52 < (0 : Int))) 0 (pc z52) (pl z52) (some (pl z52)), lsl (decide (z53 < (0 : Int))) 0 (pc z53) (pl z53) (some (pl z53)), lsl (decide (z54 < (0 : Int))) 0 (pc z54) (pl z54) (some (pl z54)), lsl (decide (z55 < (0 : Int))) 0 (pc z55) (pl z55) (some (pl z55)), lsl (decide (z56 < (0 : Int))) 0 (pc z56) (pl z56) (some (pl z56)), lsl false 0 [int i64 1] 1 (some 1), lsl false 0 [int i64 2] 1 (some 1)], agg [nilS, int i64 0]]))))) (br (z220 != (0 : Int)) (∃ b248 cs249 n250 cp251 z252, Sm 42 [agg [lsl b216 0 cs217 n218 cp219, int i64 z220], lsl (decide (z56 < (0 : Int))) 0 (pc z56) (pl z56) (some (pl z56))] ((tup [agg skel0, agg [lsl b248 0 cs249 n250 cp251, int i64 z252]])) ∧ K (AOut.ret (tup [agg skel0, agg [lsl b248 0 cs249 n250 cp251, int i64 z252]]))) (K (AOut.ret (tup [agg [int i64 z69, lsl false 0 [int i64 0] 1 (some 1), lsl (decide (z47 < (0 : Int))) 0 (pc z47) (pl z47) (some (pl z47)), lsl (decide (z48 < (0 : Int))) 0 (pc z48) (pl z48) (some (pl z48)), lsl (decide (z49 < (0 : Int))) 0 (pc z49) (pl z49) (some (pl z49)), lsl (decide (z50 < (0 : Int))) 0 (pc z50) (pl z50) (some (pl z50)), lsl (decide (z51 < (0 : Int))) 0 (pc z51) (pl z51) (some (pl z51)), lsl (decide (z52 < (0 : Int))) 0 (pc z52) (pl z52) (some (pl z52)), lsl (decide (z53 < (0 : Int))) 0 (pc z53) (pl z53) (some (pl z53)), lsl (decide (z54 < (0 : Int))) 0 (pc z54) (pl z54) (some (pl z54)), lsl (decide (z55 < (0 : Int))) 0 (pc z55) (pl z55) (some (pl z55)), lsl (decide (z56 < (0 : Int))) 0 (pc z56) (pl z56) (some (pl z56)), lsl false 0 [int i64 1] 1 (some 1), lsl false 0 [int i64 2] 1 (some 1)], agg [nilS, int i64 0]]))))) (K (AOut.ret (tup [agg [int i64 z69, lsl false 0 [int i64 0] 1 (some 1), lsl (decide (z47 < (0 : Int))) 0 (pc z47) (pl z47) (some (pl z47)), lsl (decide (z48 < (0 : Int))) 0 (pc z48) (pl z48) (some (pl z48)), lsl (decide (z49 < (0 : Int))) 0 (pc z49) (pl z49) (some (pl z49)), lsl (decide (z50 < (0 : Int))) 0 (pc z50) (pl z50) (some (pl z50)), lsl (decide (z51 < (0 : Int))) 0 (pc z51) (pl z51) (some (pl z51)), lsl (decide (z52 < (0 : Int))) 0 (pc z52) (pl z52) (some (pl z52)), lsl (decide (z53 < (0 : Int))) 0 (pc z53) (pl z53) (some (pl z53)), lsl (decide (z54 < (0 : Int))) 0 (pc z54) (pl z54) (some (pl z54)), lsl (decide (z55 < (0 : Int))) 0 (pc z55) (pl z55) (some (pl z55)), lsl (decide (z56 < (0 : Int))) 0 (pc z56) (pl z56) (some (pl z56)), lsl false 0 [int i64 1] 1 (some 1), lsl false 0 [int i64 2] 1 (some 1)], agg [nilS, int i64 0]]))))))) (br (decide ((↑(pl z54) : Int) > (0 : Int))) (∃ b253 cs254 n255 cp256 z257, Sm 42 [agg [nilS, int i64 16], lsl (decide (z54 < (0 : Int))) 0 (pc z54) (pl z54) (some (pl z54))] ((tup [agg skel0, agg [lsl b253 0 cs254 n255 cp256, int i64 z257]])) ∧ K (AOut.ret (tup [agg skel0, agg [lsl b253 0 cs254 n255 cp256, int i64 z257]]))) (br (decide ((↑(pl z55) : Int) > (0 : Int))) (∃ b258 cs259 n260 cp261 z262, Sm 42 [agg [nilS, int i64 16], lsl (decide (z55 < (0 : Int))) 0 (pc z55) (pl z55) (some (pl z55))] ((tup [agg skel0, agg [lsl b258 0 cs259 n260 cp261, int i64 z262]])) ∧ K (AOut.ret (tup [agg skel0, agg [lsl b258 0 cs259 n260 cp261, int i64 z262]]))) (br (decide ((↑(pl z56) : Int) > (0 : Int))) (∃ b263 cs264 n265 cp266 z267, Sm 42 [agg [nilS, int i64 16], lsl (decide (z56 < (0 : Int))) 0 (pc z56) (pl z56) (some (pl z56))] ((tup [agg skel0, agg [lsl b263 0 cs264 n265 cp266, int i64 z267]])) ∧ K (AOut.ret (tup [agg skel0, agg [lsl b263 0 cs264 n265 cp266, int i64 z267]]))) (br (decide ((↑(pl z56) : Int) > (0 : Int))) (decide (z56 < (0 : Int)) = false ∧ (0 : Int) ≤ (1 : Int) ∧ (1 : Int) < (↑(pl z56) : Int) ∧ ∃ z268 cs269, List.drop 1 (pc z56) = int i64 z268 :: cs269 ∧ b28 = false ∧ (0 : Int) ≤ z268 ∧ z268 < (↑n30 : Int) ∧ ∃ z270 b271 z272 b273 cs274 n275 cp276 b277 cs278 n279 cp280 cs281, List.drop (Int.toNat z268 * 5) cs29 = int u8 z270 :: AV.bool b271 :: int u32 z272 :: lsl b273 0 cs274 n275 cp276 :: lsl b277 0 cs278 n279 cp280 :: cs281 ∧ ∃ b282 cs283 n284 cp285 z286, Sm 46 [agg [int u8 z270, AV.bool b271, int u32 z272, lsl b273 0 cs274 n275 cp276, lsl b277 0 cs278 n279 cp280], int u32 3] ((agg [lsl b282 0 cs283 n284 cp285, int i64 z286])) ∧ br (z286 == (0 : Int)) (b277 = false ∧ (0 : Int) ≤ (0 : Int) ∧ (0 : Int) < (↑n279 : Int) ∧ ∃ z287 b288 z289 b290 cs291 n292 cp293 b294 cs295 n296 cp297 cs298, cs278 = int u8 z287 :: AV.bool b288 :: int u32 z289 :: lsl b290 0 cs291 n292 cp293 :: lsl b294 0 cs295 n296 cp297 :: cs298 ∧ br (!(z287 == (0 : Int) && (b288 == true && z289 == (16 : Int)))) (∃ b299 cs300 n301 cp302 z303, Sm 47 [int i64 0, agg [nilS, int i64 9]] ((agg [lsl b299 0 cs300 n301 cp302, int i64 z303])) ∧ br (z303 != (0 : Int)) (∃ b304 cs305 n306 cp307 z308, Sm 42 [agg [lsl b299 0 cs300 n301 cp302, int i64 z303], lsl (decide (z56 < (0 : Int))) 0 (pc z56) (pl z56) (some (pl z56))] ((tup [agg skel0, agg [lsl b304 0 cs305 n306 cp307, int i64 z308]])) ∧ K (AOut.ret (tup [agg skel0, agg [lsl b304 0 cs305 n306 cp307, int i64 z308]]))) (K (AOut.ret (tup [agg [int i64 1, lsl false 0 [int i64 0] 1 (some 1), lsl (decide (z47 < (0 : Int))) 0 (pc z47) (pl z47) (some (pl z47)), lsl (decide (z48 < (0 : Int))) 0 (pc z48) (pl z48) (some (pl z48)), lsl (decide (z49 < (0 : Int))) 0 (pc z49) (pl z49) (some (pl z49)), lsl (decide (z50 < (0 : Int))) 0 (pc z50) (pl z50) (some (pl z50)), lsl (decide (z51 < (0 : Int))) 0 (pc z51) (pl z51) (some (pl z51)), lsl (decide (z52 < (0 : Int))) 0 (pc z52) (pl z52) (some (pl z52)), lsl (decide (z53 < (0 : Int))) 0 (pc z53) (pl z53) (some (pl z53)), lsl (decide (z54 < (0 : Int))) 0 (pc z54) (pl z54) (some (pl z54)), lsl (decide (z55 < (0 : Int))) 0 (pc z55) (pl z55) (some (pl z55)), lsl (decide (z56 < (0 : Int))) 0 (pc z56) (pl z56) (some (pl z56)), lsl false 0 [int i64 1] 1 (some 1), lsl false 0 [int i64 2] 1 (some 1)], agg [nilS, int i64 0]])))) (br (z286 != (0 : Int)) (∃ b309 cs310 n311 cp312 z313, Sm 42 [agg [lsl b282 0 cs283 n284 cp285, int i64 z286], lsl (decide (z56 < (0 : Int))) 0 (pc z56) (pl z56) (some (pl z56))] ((tup [agg skel0, agg [lsl b309 0 cs310 n311 cp312, int i64 z313]])) ∧ K (AOut.ret (tup [agg skel0, agg [lsl b309 0 cs310 n311 cp312, int i64 z313]]))) (K (AOut.ret (tup [agg [int i64 1, lsl false 0 [int i64 0] 1 (some 1), lsl (decide (z47 < (0 : Int))) 0 (pc z47) (pl z47) (some (pl z47)), lsl (decide (z48 < (0 : Int))) 0 (pc z48) (pl z48) (some (pl z48)), lsl (decide (z49 < (0 : Int))) 0 (pc z49) (pl z49) (some (pl z49)), lsl (decide (z50 < (0 : Int))) 0 (pc z50) (pl z50) (some (pl z50)), lsl (decide (z51 < (0 : Int))) 0 (pc z51) (pl z51) (some (pl z51)), lsl (decide (z52 < (0 : Int))) 0 (pc z52) (pl z52) (some (pl z52)), lsl (decide (z53 < (0 : Int))) 0 (pc z53) (pl z53) (some (pl z53)), lsl (decide (z54 < (0 : Int))) 0 (pc z54) (pl z54) (some (pl z54)), lsl (decide (z55 < (0 : Int))) 0 (pc z55) (pl z55) (some (pl z55)), lsl (decide (z56 < (0 : Int))) 0 (pc z56) (pl z56) (some (pl z56)), lsl false 0 [int i64 1] 1 (some 1), lsl false 0 [int i64 2] 1 (some 1)], agg [nilS, int i64 0]]))))) (br (z286 != (0 : Int)) (∃ b314 cs315 n316 cp317 z318, Sm 42 [agg [lsl b282 0 cs283 n284 cp285, int i64 z286], lsl (decide (z56 < (0 : Int))) 0 (pc z56) (pl z56) (some (pl z56))] ((tup [agg skel0, agg [lsl b314 0 cs315 n316 cp317, int i64 z318]])) ∧ K (AOut.ret (tup [agg skel0, agg [lsl b314 0 cs315 n316 cp317, int i64 z318]]))) (K (AOut.ret (tup [agg [int i64 1, lsl false 0 [int i64 0] 1 (some 1), lsl (decide (z47 < (0 : Int))) 0 (pc z47) (pl z47) (some (pl z47)), lsl (decide (z48 < (0 : Int))) 0 (pc z48) (pl z48) (some (pl z48)), lsl (decide (z49 < (0 : Int))) 0 (pc z49) (pl z49) (some (pl z49)), lsl (decide (z50 < (0 : Int))) 0 (pc z50) (pl z50) (some (pl z50)), lsl (decide (z51 < (0 : Int))) 0 (pc z51) (pl z51) (some (pl z51)), lsl (decide (z52 < (0 : Int))) 0 (pc z52) (pl z52) (some (pl z52)), lsl (decide (z53 < (0 : Int))) 0 (pc z53) (pl z53) (some (pl z53)), lsl (decide (z54 < (0 : Int))) 0 (pc z54) (pl z54) (some (pl z54)), lsl (decide (z55 < (0 : Int))) 0 (pc z55) (pl z55) (some (pl z55)), lsl (decide (z56 < (0 : Int))) 0 (pc z56) (pl z56) (some (pl z56)), lsl false 0 [int i64 1] 1 (some 1), lsl false 0 [int i64 2] 1 (some 1)], agg [nilS, int i64 0]]))))) (K (AOut.ret (tup [agg [int i64 1, lsl false 0 [int i64 0] 1 (some 1), lsl (decide (z47 < (0 : Int))) 0 (pc z47) (pl z47) (some (pl z47)), lsl (decide (z48 < (0 : Int))) 0 (pc z48) (pl z48) (some (pl z48)), lsl (decide (z49 < (0 : Int))) 0 (pc z49) (pl z49) (some (pl z49)), lsl (decide (z50 < (0 : Int))) 0 (pc z50) (pl z50) (some (pl z50)), lsl (decide (z51 < (0 : Int))) 0 (pc z51) (pl z51) (some (pl z51)), lsl (decide (z52 < (0 : Int))) 0 (pc z52) (pl z52) (some (pl z52)), lsl (decide (z53 < (0 : Int))) 0 (pc z53) (pl z53) (some (pl z53)), lsl (decide (z54 < (0 : Int))) 0 (pc z54) (pl z54) (some (pl z54)), lsl (decide (z55 < (0 : Int))) 0 (pc z55) (pl z55) (some (pl z55)), lsl (decide (z56 < (0 : Int))) 0 (pc z56) (pl z56) (some (pl z56)), lsl false 0 [int i64 1] 1 (some 1), lsl false 0 [int i64 2] 1 (some 1)], agg [nilS, int i64 0]]))))))))))) := by kernel_rfl
end

/-! skeletons.Of -/
abbrev fS : Fld := ⟨0, true, 16, false, false⟩
def flds3 : List Fld := [fS, fS, ⟨0, false, 3, false, false⟩]
def flds10 : List Fld := [⟨2, true, 0, false, true⟩, ⟨0, false, 2, false, false⟩, fS, fS, fS, fS, fS, ⟨2, false, 1, false, true⟩, ⟨2, false, 2, false, true⟩, ⟨2, true, 3, false, true⟩]

inductive OfR where
  | bad (path : List Int) (err : Int)
  | good (v : Int) (ks : List Int)

/-- The part Extensions: a fault. -/
def extM (x : El) : List Int × Int :=
  if (explM x 3).1 ≠ 0 then ((explM x 3).2, (explM x 3).1) else match x.subs with
  | [] => ([], 0)
  | y :: _ => if y.c = 0 ∧ y.k = true ∧ y.n = 16 then ([], 0) else ([0], 9)

def of4 (subs : List El) (v : Int) (ks : List Int) : OfR :=
  if ks.getD 9 (-1) < 0 then .good v ks else match subs[(ks.getD 9 (-1)).toNat]? with
  | none => .good v ks
  | some x => if (extM x).2 ≠ 0 then .bad ([0, ks.getD 9 (-1)] ++ (extM x).1) (extM x).2 else .good v ks

def of3 (subs : List El) (v : Int) (ks : List Int) : OfR :=
  if v = 1 ∧ 0 ≤ ks.getD 7 (-1) then .bad [0, ks.getD 7 (-1)] 16
  else if v = 1 ∧ 0 ≤ ks.getD 8 (-1) then .bad [0, ks.getD 8 (-1)] 16
  else if (v = 1 ∨ v = 2) ∧ 0 ≤ ks.getD 9 (-1) then .bad [0, ks.getD 9 (-1)] 16
  else of4 subs v ks

def of2 (subs : List El) (ks : List Int) : OfR :=
  if ks.getD 0 (-1) < 0 then of3 subs 1 ks else match subs with
  | [] => of3 subs 1 ks
  | x :: _ => if (verM x).2.2 ≠ 0 then .bad ([0, 0] ++ (verM x).2.1) (verM x).2.2 else of3 subs (verM x).1 ks

def of1 (tbs : El) : OfR :=
  if (seqM tbs 0 true 16 flds10).1 ≠ 0 then .bad ([0] ++ (seqM tbs 0 true 16 flds10).2.1) (seqM tbs 0 true 16 flds10).1 else of2 tbs.subs (seqM tbs 0 true 16 flds10).2.2

/-- The skeleton of an element: a fault, or the version and where the parts are. -/
def ofM (e : El) : OfR :=
  if checkE e ≠ 0 then .bad [] (checkE e) else if (seqM e 0 true 16 flds3).1 ≠ 0 then .bad (seqM e 0 true 16 flds3).2.1 (seqM e 0 true 16 flds3).1 else match e.subs with
  | [] => .bad [] 1
  | tbs :: _ => of1 tbs

def skL (v : Int) (ks : List Int) : List AV := .int .i64 v :: p1S 0 :: (ks.map pS ++ [p1S 1, p1S 2])

def OfV (r : OfR) (o : AV) : Prop := match r with
  | .bad p err => err ≠ 0 ∧ p.length < 2 ^ 30 ∧ ∃ b, FA p err true b ∧ o = .tup [.agg skel0, b]
  | .good v ks => ks.length = 10 ∧ o = .tup [.agg (skL v ks), .agg [nilS, .int .i64 0]]

theorem tagLe_pS (k : Int) : tagLe 0 (pS k) = true := by
  simp [tagLe]

theorem tagLeL_skL (v : Int) (ks : List Int) : tagLeL 0 (skL v ks) = true := by
  have : ∀ ks : List Int, tagLeL 0 (ks.map pS ++ [p1S 1, p1S 2]) = true := by
    intro ks
    induction ks with
    | nil => rfl
    | cons k ks ih => simp only [List.map_cons, List.cons_append, tagLeL, ih, tagLe_pS, Bool.and_self]
  unfold skL
  simp only [tagLeL, this]
  rfl

theorem putL_skL {v : Int} {ks : List Int} {i : Nat} {z : Int} (h : i < ks.length) : putL (skL v ks) (i + 2) [pS z] = skL v (ks.set i z) := by
  unfold putL skL
  rw [List.set_eq_take_append_cons_drop, if_pos h]
  have h1 : i ≤ (ks.map pS).length := by simp; omega
  have h2 : i + 1 ≤ (ks.map pS).length := by simp; omega
  simp [List.take_append_of_le_length h1, List.drop_append_of_le_length h2, List.map_take, List.map_drop]

theorem loop20 {l : List Int} {nl : Bool} {ex : List AV} {cp : Option Nat} (hl : l.length = 10) (hn : nl = true → l = []) (hr : ∀ k ∈ l, k = -1 ∨ 0 ≤ k) (nlf nlg ek nle1 nle2 : Bool) (csf csg cse1 cse2 : List AV) (lenf leng lene1 lene2 : Nat) (cpf cpg cpe1 cpe2 : Option Nat) (fe ec en ge : Int) :
    ∀ (x : Nat) (kvs : List (Nat × AV)) (σ : St), (x ≤ 10 ∧ kvs = [(2, .ref 0 0), (3, .ref 1 0), (8, .ref 2 0), (10, .ref 3 0), (11, .ref 4 0), (73, .lsl nl 0 (l.map (AV.int .i64) ++ ex) l.length cp), (74, .int .i64 (l.length : Nat)), (75, .int .i64 x)] ∧
        σ = ⟨[some (.cells skel0 62 false), some (.cells [.lsl nlf 0 csf lenf cpf, .int .i64 fe] 50 false), some (.cells [.int .u8 ec, .bool ek, .int .u32 en, .lsl nle1 0 cse1 lene1 cpe1, .lsl nle2 0 cse2 lene2 cpe2] 32 false), some (.cells [.lsl nlg 0 csg leng cpg, .int .i64 ge] 50 false), some (.cells (skL 1 (l.take x ++ List.replicate (10 - x) (-1))) 62 false)], 0⟩) →
      ∃ ae kvs' σ', (ae = .exit 0 ∧ kvs' = [(2, .ref 0 0), (3, .ref 1 0), (8, .ref 2 0), (10, .ref 3 0), (11, .ref 4 0)] ∧
        σ' = ⟨[some (.cells skel0 62 false), some (.cells [.lsl nlf 0 csf lenf cpf, .int .i64 fe] 50 false), some (.cells [.int .u8 ec, .bool ek, .int .u32 en, .lsl nle1 0 cse1 lene1 cpe1, .lsl nle2 0 cse2 lene2 cpe2] 32 false), some (.cells [.lsl nlg 0 csg leng cpg, .int .i64 ge] 50 false), some (.cells (skL 1 l) 62 false)], 0⟩) ∧
        Cd 0 (.loop (bodyL Tryd.f20 0)) (frOf 162 kvs) σ ae (frOf 162 kvs') σ' := by
  refine loop_by (tb := tb_r20) (f := 20) (c := bodyL Tryd.f20 0) (k := 0) (N := 162) (keepN := [2, 3, 8, 10, 11, 73, 74, 75]) (keepX := [2, 3, 8, 10, 11]) env_ok _ _ (fun x => 10 - x) ?_
  rintro i kvs σ ⟨hi, rfl, rfl⟩
  rw [r20]
  refine br_i (fun hlt => ?_) (fun hge => ?_)
  · have hlt : i < l.length := by have := of_decide_eq_true hlt; omega
    have hnl : nl = false := by
      cases nl
      · rfl
      · rw [hn rfl] at hlt; simp at hlt
    have hw : IntKind.i64.wrap ((i : Int) + 1) = ((i + 1 : Nat) : Int) := by rw [wrap_small (by omega) (by omega)]; simp
    have hw2 : IntKind.i64.wrap (1 + (i : Int)) = ((i + 1 : Nat) : Int) := by rw [wrap_small (by omega) (by omega)]; omega
    have hln : (l.take i ++ List.replicate (10 - i) (-1 : Int)).length = 10 := by simp; omega
    have hset : (l.take i ++ List.replicate (10 - i) (-1 : Int)).set i l[i] = l.take (i + 1) ++ List.replicate (10 - (i + 1)) (-1) := by
      apply List.ext_getElem
      · simp; omega
      · intro j h1 h2
        simp only [List.getElem_set, List.getElem_append, List.getElem_take, List.length_take, List.getElem_replicate]
        by_cases hij : i = j
        · subst hij; simp; omega
        · simp only [hij, if_false]
          by_cases hj : j < i
          · rw [dif_pos (by omega), dif_pos (by omega)]
          · rw [dif_neg (by omega), dif_neg (by omega)]
    refine ⟨hnl, by omega, by omega, _, _, by rw [Int.toNat_natCast, Nat.mul_one]; exact SI.cells_at hlt, ?_⟩
    rw [hw, hw2]
    refine br_i (fun hz => ?_) (fun hz => ?_)
    · have hz := of_decide_eq_true hz
      have hp : putL (skL 1 (l.take i ++ List.replicate (10 - i) (-1 : Int))) (1 + Int.toNat ((i + 1 : Nat) : Int) * 1) [.lsl false 0 [.int .i64 0, .int .i64 l[i]] 2 (some 2)] = skL 1 (l.take (i + 1) ++ List.replicate (10 - (i + 1)) (-1)) := by
        have hps : (AV.lsl false 0 [.int .i64 0, .int .i64 l[i]] 2 (some 2)) = pS l[i] := by
          have : ¬ l[i] < 0 := by omega
          simp [pc, pl, this]
        rw [hps, show 1 + Int.toNat ((i + 1 : Nat) : Int) * 1 = i + 2 by omega, putL_skL (by omega), hset]
      rw [hp]
      refine ⟨by omega, by omega, by simp [skL]; omega, rfl, tagLeL_skL _ _, ?_⟩
      exact ⟨i + 1, by omega, ⟨by omega, rfl, rfl⟩, fun ae kvs σ h => h⟩
    · have hz : l[i] = -1 := by have := of_decide_eq_false hz; have := hr l[i] (List.getElem_mem _); omega
      refine ⟨rfl, tagLeL_skL _ _, ?_⟩
      refine ⟨i + 1, by omega, ⟨by omega, rfl, ?_⟩, fun ae kvs σ h => h⟩
      rw [← hset, hz]
      have : (l.take i ++ List.replicate (10 - i) (-1 : Int)).set i (-1) = l.take i ++ List.replicate (10 - i) (-1) := by
        apply List.ext_getElem
        · simp
        · intro j h1 h2
          simp only [List.getElem_set]
          split
          · rename_i hij; subst hij
            simp [List.getElem_append, Nat.min_eq_left (Nat.le_of_lt hlt)]
          · rfl
      rw [this]
  · have hge : i = 10 := by have := of_decide_eq_false hge; omega
    subst hge
    refine ⟨rfl, tagLeL_skL _ _, rfl, rfl, ?_⟩
    rw [List.take_of_length_le (by omega)]
    simp

theorem seqGo_out {subs : List El} : ∀ (l : List Fld) (nx : Nat) (out : List Int), (∀ k ∈ out, k = -1 ∨ 0 ≤ k ∧ k < subs.length) → ((seqGo subs l nx out).2.1.length ≤ 1) ∧ ∀ k ∈ (seqGo subs l nx out).2.2.1, k = -1 ∨ 0 ≤ k ∧ k < subs.length
  | [], nx, out, h => ⟨by simp [seqGo], h⟩
  | f :: fs, nx, out, h => by
    simp only [seqGo]
    split
    · rename_i hm
      have hlt : nx < subs.length := by
        unfold fitsAt at hm
        cases hs : subs[nx]? with
        | none => rw [hs] at hm; simp at hm
        | some e => exact (List.getElem?_eq_some_iff.1 hs).1
      refine seqGo_out fs (nx + 1) _ fun k hk => ?_
      rcases List.mem_append.1 hk with hk | hk
      · exact h k hk
      · simp at hk; subst hk; right; omega
    · split
      · refine seqGo_out fs nx _ fun k hk => ?_
        rcases List.mem_append.1 hk with hk | hk
        · exact h k hk
        · simp at hk; exact .inl hk
      · split
        · exact ⟨by simp, h⟩
        · exact ⟨by simp, h⟩

theorem seqM_len (e : El) (tc : Int) (tk : Bool) (tn : Int) (l : List Fld) : (seqM e tc tk tn l).2.1.length ≤ 1 := by
  unfold seqM seqF seqEnd
  have := (seqGo_out (subs := e.subs) l 0 [] (by simp)).1
  split
  · simp
  · split
    · split
      · split <;> simp
      · exact this
    · simp

theorem seqM_ok {e : El} {tc : Int} {tk : Bool} {tn : Int} {l : List Fld} (h : (seqM e tc tk tn l).1 = 0) : (seqM e tc tk tn l).2.2.length = l.length ∧ (∀ k ∈ (seqM e tc tk tn l).2.2, k = -1 ∨ 0 ≤ k ∧ k < e.subs.length) := by
  revert h
  unfold seqM seqF seqEnd
  have := (seqGo_out (subs := e.subs) l 0 [] (by simp)).2
  have h2 := (seqGo_nx (subs := e.subs) l 0 [] (by simp)).2
  split
  · simp
  · split
    · split
      · rename_i h3
        split
        · simp
        · intro _; exact ⟨by simpa using h2 h3, this⟩
      · rename_i h3; intro h; exact absurd h h3
    · simp

theorem seqGo_must {subs : List El} : ∀ (l : List Fld) (nx : Nat) (out : List Int), (∀ f ∈ l, f.opt = false) → (seqGo subs l nx out).1 = 0 → (seqGo subs l nx out).2.2.2 = nx + l.length
  | [], nx, out, _, _ => rfl
  | f :: fs, nx, out, h, h0 => by
    have hf : f.opt = false := h f (List.mem_cons_self ..)
    simp only [seqGo] at h0 ⊢
    split at h0
    · rename_i hm
      rw [if_pos hm]
      rw [seqGo_must fs (nx + 1) _ (fun g hg => h g (List.mem_cons_of_mem _ hg)) h0]
      simp; omega
    · rw [if_neg (by simp [hf])] at h0
      split at h0 <;> simp at h0

theorem seqM_three {e : El} {tc : Int} {tk : Bool} {tn : Int} (h : (seqM e tc tk tn flds3).1 = 0) : ∃ a b c, e.subs = [a, b, c] := by
  have hlen : e.subs.length = 3 := by
    revert h
    unfold seqM seqF seqEnd
    have h1 := seqGo_must (subs := e.subs) flds3 0 [] (by simp [flds3])
    have h2 := (seqGo_nx (subs := e.subs) flds3 0 [] (by simp)).1
    have h3 : flds3.length = 3 := rfl
    split
    · simp
    · split
      · split
        · rename_i h4
          have := h1 h4
          split
          · simp
          · intro _; omega
        · rename_i h4; intro h; exact absurd h h4
      · simp
  match hs : e.subs, hlen with
  | [a, b, c], _ => exact ⟨a, b, c, rfl⟩

theorem fin42 {R : OfR} {path : List Int} {err : Int} {p : List Int} {a b : AV} (hf : FA path err true a) (hl : path.length < 2 ^ 28) (hp : SI .i64 p b) (hpl : p.length < 2 ^ 28) (he : err ≠ 0) (hR : R = .bad (p ++ path) err) :
    ∃ b2 cs3 n4 cp5 z6, Sm 42 [a, b] (.tup [.agg skel0, .agg [.lsl b2 0 cs3 n4 cp5, .int .i64 z6]]) ∧ ∃ v, AOut.ret (.tup [.agg skel0, .agg [.lsl b2 0 cs3 n4 cp5, .int .i64 z6]]) = .ret v ∧ OfV R v := by
  obtain ⟨v, hv, hs⟩ := sum42 hf (by omega) hp (by omega)
  rw [undAll_eq, if_neg he] at hv
  have hv0 := hv
  obtain ⟨nl, xs, cp, rfl, -⟩ := hv
  exact ⟨_, _, _, _, _, hs, _, rfl, by rw [hR]; exact ⟨he, by simp; omega, _, hv0, rfl⟩⟩

theorem fa_nil (err : Int) : FA [] err true (.agg [nilS, .int .i64 err]) := ⟨true, [], some 0, rfl, capOk_some, fun _ => rfl, fun _ => rfl, by simp⟩
theorem si_nil : SI .i64 [] nilS := ⟨true, [], some 0, rfl, capOk_some, by simp, fun _ => rfl⟩
theorem si_pS {k : Int} (h : 0 ≤ k) : SI .i64 [0, k] (pS k) := by
  have : ¬ k < 0 := by omega
  exact ⟨false, [], some 2, by simp [pc, pl, this], capOk_some, by simp, by simp⟩
theorem pl_pos {k : Int} (h : 0 ≤ k) : decide ((↑(pl k) : Int) > (0 : Int)) = true := by
  have : ¬ k < 0 := by omega
  simp [pl, this]
theorem pl_neg {k : Int} (h : ¬ 0 ≤ k) : decide ((↑(pl k) : Int) > (0 : Int)) = false := by
  have : k < 0 := by omega
  simp [pl, this]

theorem explM_len (e : El) (m : Int) : (explM e m).2.length ≤ 1 := by
  unfold explM
  split
  · split
    · simp
    · split <;> simp
  · simp

theorem verM_len (e : El) : (verM e).2.1.length ≤ 1 := by
  unfold verM
  have := explM_len e 0
  split
  · exact this
  · split
    · simp
    · split
      · exact underM_len ..
      · simp

theorem sum20 {e : El} {cells : List AV} (h : ElA e cells) : ∃ v, OfV (ofM e) v ∧ Sm 20 [.agg cells] v := by
  have h0 := h
  obtain ⟨c, k, n, bs, subs⟩ := e
  obtain ⟨nl1, ex1, cp1, nl2, cs2, cp2, rfl, hc1, hl1, hn1, hc2, hl2, hn2, hs⟩ := h.out
  obtain ⟨R, hR⟩ : ∃ R, R = ofM (.mk c k n bs subs) := ⟨_, rfl⟩
  rw [← hR]
  refine sum_ex _ (vc20 ..) ?_
  refine ⟨_, sum37 h0, br_i (fun h1 => ?_) (fun h1 => ?_)⟩
  · have h1 : checkE (.mk c k n bs subs) ≠ 0 := by simpa using h1
    exact fin42 (fa_nil _) (by simp) si_nil (by simp) h1 (by rw [hR]; unfold ofM; rw [if_pos h1]; rfl)
  have h1 : ¬ checkE (.mk c k n bs subs) ≠ 0 := by simpa using h1
  unfold ofM at hR
  rw [if_neg h1] at hR
  generalize hE : (El.mk c k n bs subs) = e at h0 h1 hR ⊢
  have ha : FS flds3 (.lsl false 0 [.int .u8 0, .bool true, .int .u32 16, .bool false, .bool false, .int .u8 0, .bool true, .int .u32 16, .bool false, .bool false, .int .u8 0, .bool false, .int .u32 3, .bool false, .bool false] 3 none) := ⟨false, [], none, rfl, capOk_none, by simp⟩
  have hpl := seqM_len e 0 true 16 flds3
  obtain ⟨vo, nlv, cpv, hsm, hcv, hxv, hnv, hsi, nlo, cso, leno, capo, rfl⟩ := sum43 h0 0 true 16 ha
  have hfa : FA (seqM e 0 true 16 flds3).2.1 (seqM e 0 true 16 flds3).1 true (.agg [.lsl nlv 0 ((seqM e 0 true 16 flds3).2.1.map (AV.int .i64)) (seqM e 0 true 16 flds3).2.1.length cpv, .int .i64 (seqM e 0 true 16 flds3).1]) :=
    ⟨nlv, [], cpv, by simp, hcv, hxv, hnv, by omega⟩
  refine ⟨_, _, _, _, _, _, _, _, _, hsm, br_i (fun h2 => ?_) (fun h2 => ?_)⟩
  · have h2 : (seqM e 0 true 16 flds3).1 ≠ 0 := by simpa using h2
    exact fin42 hfa (by omega) si_nil (by simp) h2 (by rw [hR, if_pos h2]; rfl)
  have h2 : ¬ (seqM e 0 true 16 flds3).1 ≠ 0 := by simpa using h2
  rw [if_neg h2] at hR
  obtain ⟨tbs, s1, s2, hsub⟩ := seqM_three (Decidable.not_not.1 h2)
  rw [hsub] at hR
  replace hR : R = of1 tbs := hR
  unfold of1 at hR
  have hsub : subs = [tbs, s1, s2] := by rw [← hsub, ← hE]; rfl
  subst hsub
  clear hsi hsm hfa hcv hxv hnv hpl h2 h1 h0 h hE ha
  have hnl2 : nl2 = false := by
    cases nl2
    · rfl
    · exact absurd (hn2 rfl) (by simp)
  simp only [ElsA] at hs
  obtain ⟨ct, rt, rfl, ht, -⟩ := hs
  have ht0 := ht
  obtain ⟨c, k, n, bs, subs⟩ := tbs
  obtain ⟨nl1, ex1, cp1, nl2, cs2, cp2, rfl, hc1, hl1, hn1, hc2, hl2, hn2, hs⟩ := ht.out
  refine ⟨hnl2, by omega, by simp, _, _, _, _, _, _, _, _, _, _, _, _, rfl, ?_⟩
  show ∃ b33 cs34 n35 cp36 b37 cs38 n39 cp40 z41, _
  generalize hE : (El.mk c k n bs subs) = e at ht0 hR ⊢
  have ha : FS flds10 (.lsl false 0 [.int .u8 2, .bool true, .int .u32 0, .bool false, .bool true, .int .u8 0, .bool false, .int .u32 2, .bool false, .bool false, .int .u8 0, .bool true, .int .u32 16, .bool false, .bool false, .int .u8 0, .bool true, .int .u32 16, .bool false, .bool false, .int .u8 0, .bool true, .int .u32 16, .bool false, .bool false, .int .u8 0, .bool true, .int .u32 16, .bool false, .bool false, .int .u8 0, .bool true, .int .u32 16, .bool false, .bool false, .int .u8 2, .bool false, .int .u32 1, .bool false, .bool true, .int .u8 2, .bool false, .int .u32 2, .bool false, .bool true, .int .u8 2, .bool true, .int .u32 3, .bool false, .bool true, .int .u8 0, .bool true, .int .u32 16, .bool false, .bool false, .int .u8 0, .bool false, .int .u32 3, .bool false, .bool false] 10 (some 10)) := ⟨false, [.int .u8 0, .bool true, .int .u32 16, .bool false, .bool false, .int .u8 0, .bool false, .int .u32 3, .bool false, .bool false], some 10, rfl, capOk_some, by simp⟩
  have hpl := seqM_len e 0 true 16 flds10
  obtain ⟨vo, nlv, cpv, hsm, hcv, hxv, hnv, hsi, nlo, cso, leno, capo, rfl⟩ := sum43 ht0 0 true 16 ha
  have hfa : FA (seqM e 0 true 16 flds10).2.1 (seqM e 0 true 16 flds10).1 true (.agg [.lsl nlv 0 ((seqM e 0 true 16 flds10).2.1.map (AV.int .i64)) (seqM e 0 true 16 flds10).2.1.length cpv, .int .i64 (seqM e 0 true 16 flds10).1]) :=
    ⟨nlv, [], cpv, by simp, hcv, hxv, hnv, by omega⟩
  show ∃ b33 cs34 n35 cp36 b37 cs38 n39 cp40 z41, _
  refine ⟨_, _, _, _, _, _, _, _, _, hsm, br_i (fun h2 => ?_) (fun h2 => ?_)⟩
  · have h2 : (seqM e 0 true 16 flds10).1 ≠ 0 := by simpa using h2
    exact fin42 (p := [0]) hfa (by omega) ⟨false, [], some 1, rfl, capOk_some, by simp, by simp⟩ (by simp) h2 (by rw [hR, if_pos h2])
  have h2 : ¬ (seqM e 0 true 16 flds10).1 ≠ 0 := by simpa using h2
  rw [if_neg h2] at hR
  obtain ⟨hlen, hr⟩ := seqM_ok (Decidable.not_not.1 h2)
  have hsi := hsi (Decidable.not_not.1 h2)
  have hsubs : e.subs = subs := by rw [← hE]; rfl
  rw [hsubs] at hR hr
  generalize (seqM e 0 true 16 flds10).2.2 = ks at hR hlen hr hsi
  obtain ⟨nlk, exk, cpk, hvo, hck, hlk, hnk⟩ := hsi
  simp only [AV.lsl.injEq] at hvo
  obtain ⟨rfl, -, rfl, rfl, rfl⟩ := hvo
  have hloop := loop20 (l := ks) (nl := nlo) (ex := exk) (cp := capo) (by rw [hlen]; rfl) hnk (fun k hk => (hr k hk).imp id And.left) true nlv k nl1 nl2 [] ((seqM e 0 true 16 flds10).2.1.map (AV.int .i64)) (bs.map (AV.int .u8) ++ ex1) cs2 0 (seqM e 0 true 16 flds10).2.1.length bs.length subs.length (some 0) cpv cp1 cp2 0 c n (seqM e 0 true 16 flds10).1 0 _ _ ⟨by omega, rfl, rfl⟩
  obtain ⟨ae, kvs', σ', ⟨rfl, rfl, rfl⟩, hcd⟩ := hloop
  match ks, hlen with
  | [k1, k2, k3, k4, k5, k6, k7, k8, k9, k10], _ =>
  refine ⟨rfl, rfl, k1, k2, k3, k4, k5, k6, k7, k8, k9, k10, hcd, ?_⟩
  have hgood : ∀ (v : Int), R = .good v [k1, k2, k3, k4, k5, k6, k7, k8, k9, k10] → ∃ o, AOut.ret (.tup [.agg (skC v k1 k2 k3 k4 k5 k6 k7 k8 k9 k10), .agg [nilS, .int .i64 0]]) = .ret o ∧ OfV R o := by
    intro v h; exact ⟨_, rfl, by rw [h]; exact ⟨rfl, rfl⟩⟩
  have hbad : ∀ k : Int, 0 ≤ k → R = .bad [0, k] 16 → ∃ b2 cs3 n4 cp5 z6, Sm 42 [.agg [nilS, .int .i64 16], pS k] (.tup [.agg skel0, .agg [.lsl b2 0 cs3 n4 cp5, .int .i64 z6]]) ∧ ∃ v, AOut.ret (.tup [.agg skel0, .agg [.lsl b2 0 cs3 n4 cp5, .int .i64 z6]]) = .ret v ∧ OfV R v := by
    intro k hk h
    exact fin42 (fa_nil 16) (by simp) (si_pS hk) (by simp) (by decide) h
  have h3 : ∀ v, v = 1 → of3 subs v [k1, k2, k3, k4, k5, k6, k7, k8, k9, k10] = if 0 ≤ k8 then .bad [0, k8] 16 else if 0 ≤ k9 then .bad [0, k9] 16 else if 0 ≤ k10 then .bad [0, k10] 16 else .good v [k1, k2, k3, k4, k5, k6, k7, k8, k9, k10] := by
    rintro v rfl
    unfold of3 of4
    simp only [true_and, true_or, List.getD_cons_succ, List.getD_cons_zero]
    by_cases h : 0 ≤ k10
    · simp only [h, if_true]
    · have : k10 < 0 := by omega
      simp only [h, this, if_true, if_false]
  have h4 : of3 subs 2 [k1, k2, k3, k4, k5, k6, k7, k8, k9, k10] = if 0 ≤ k10 then .bad [0, k10] 16 else .good 2 [k1, k2, k3, k4, k5, k6, k7, k8, k9, k10] := by
    unfold of3 of4
    simp only [show ¬ (2 : Int) = 1 by decide, false_and, false_or, or_true, true_and, if_false, List.getD_cons_succ, List.getD_cons_zero]
    by_cases h : 0 ≤ k10
    · simp only [h, if_true]
    · have : k10 < 0 := by omega
      simp only [h, this, if_true, if_false]
  have hn2b : subs ≠ [] → nl2 = false := by
    intro h
    cases nl2
    · rfl
    · exact absurd (hn2 rfl) h
  refine br_i (fun h5 => ?_) (fun h5 => ?_)
  · have hk1 : 0 ≤ k1 := by
      rcases Int.lt_or_le k1 0 with h | h
      · rw [pl_neg (by omega)] at h5; cases h5
      · exact h
    have hk1l : k1 < subs.length := by
      rcases hr k1 (List.mem_cons_self ..) with h | h
      · omega
      · exact h.2
    unfold of2 at hR
    rw [show List.getD [k1, k2, k3, k4, k5, k6, k7, k8, k9, k10] 0 (-1) = k1 from rfl, if_neg (by omega)] at hR
    have hr10 := hr k10 (by simp)
    match subs, hk1l with
    | [], hk1l => exact absurd hk1l (by simp; omega)
    | x :: xs, _ =>
    have hnl2 := hn2b (by simp)
    have hs0 := hs
    simp only [ElsA] at hs
    obtain ⟨cx, tx, rfl, hx, -⟩ := hs
    have hx0 := hx
    replace hR : R = if (verM x).2.2 ≠ 0 then .bad ([0, 0] ++ (verM x).2.1) (verM x).2.2 else of3 (x :: xs) (verM x).1 [k1, k2, k3, k4, k5, k6, k7, k8, k9, k10] := hR
    have hvl := verM_len x
    obtain ⟨a44, ha44, h44⟩ := sum44 hx
    have ha440 := ha44
    generalize verM x = vm at hR hvl ha44 ha440 h44
    obtain ⟨v, vp, ve⟩ := vm
    simp only at hR hvl ha44 ha440 h44
    obtain ⟨cX, kX, nX, bsX, subsX⟩ := x
    obtain ⟨nlx1, exx1, cpx1, nlx2, csx2, cpx2, rfl, -⟩ := hx.out
    obtain ⟨nlf, xsf, cpf, rfl, -⟩ := ha44
    refine ⟨hnl2, by omega, by simp only [List.length_cons]; omega, _, _, _, _, _, _, _, _, _, _, _, _, rfl, _, _, _, _, _, _, h44, br_i (fun h6 => ?_) (fun h6 => ?_)⟩
    · have h6 : ve ≠ 0 := by simpa using h6
      exact fin42 (p := [0, 0]) ha440 (by omega) ⟨false, [], some 2, rfl, capOk_some, by simp, by simp⟩ (by simp) h6 (by rw [hR, if_pos h6])
    have h6 : ¬ ve ≠ 0 := by simpa using h6
    rw [if_neg h6] at hR
    refine br_i (fun h7 => ?_) (fun h7 => br_i (fun h8 => ?_) (fun h8 => br_i (fun h9 => ?_) (fun h9 => ?_)))
    · have h7 : v = 1 := by simpa using h7
      rw [h3 v h7] at hR
      by_cases h8 : 0 ≤ k8
      · rw [if_pos h8] at hR
        exact br_t (pl_pos h8) (hbad _ h8 hR)
      rw [if_neg h8] at hR
      refine br_f (pl_neg h8) ?_
      by_cases h9 : 0 ≤ k9
      · rw [if_pos h9] at hR
        exact br_t (pl_pos h9) (hbad _ h9 hR)
      rw [if_neg h9] at hR
      refine br_f (pl_neg h9) ?_
      by_cases h10 : 0 ≤ k10
      · rw [if_pos h10] at hR
        exact br_t (pl_pos h10) (hbad _ h10 hR)
      rw [if_neg h10] at hR
      exact br_f (pl_neg h10) (br_f (pl_neg h10) (hgood _ hR))
    · have h8 : v = 2 := by simpa using h8
      subst h8
      rw [h4] at hR
      by_cases h10 : 0 ≤ k10
      · rw [if_pos h10] at hR
        exact br_t (pl_pos h10) (hbad _ h10 hR)
      rw [if_neg h10] at hR
      exact br_f (pl_neg h10) (br_f (pl_neg h10) (hgood _ hR))
    · have h7 : v ≠ 1 := by simpa using h7
      have h8 : v ≠ 2 := by simpa using h8
      have hk : 0 ≤ k10 := by
        rcases Int.lt_or_le k10 0 with h | h
        · rw [pl_neg (by omega)] at h9; cases h9
        · exact h
      have hkl : k10 < ((El.mk cX kX nX bsX subsX) :: xs).length := by
        rcases hr10 with h | h
        · omega
        · exact h.2
      obtain ⟨c5, k5', n5, bs5, ss5, nla, exa, cpa, nlb, csb, cpb, tl, hget, hdrop, hel⟩ := hs0.cell (i := k10.toNat) (by omega)
      unfold of3 of4 at hR
      simp only [h7, h8, false_and, false_or, if_false, List.getD_cons_succ, List.getD_cons_zero, show ¬ k10 < 0 by omega, hget] at hR
      have hpc : List.drop 1 (pc k10) = [.int .i64 k10] := by
        simp [pc, show ¬ k10 < 0 by omega]
      refine ⟨by simp; omega, by omega, by simp [pl, show ¬ k10 < 0 by omega], _, _, hpc, hnl2, hk, by omega, _, _, _, _, _, _, _, _, _, _, _, _, hdrop, ?_⟩
      have hel0 := hel
      generalize hE5 : El.mk c5 k5' n5 bs5 ss5 = e5 at hR hel0
      have hss : e5.subs = ss5 := by rw [← hE5]; rfl
      obtain ⟨a46, ha46, h46⟩ := sum46 hel0 3
      have hel46 := explM_len e5 3
      have ha460 := ha46
      obtain ⟨nlg, xsg, cpg, rfl, -⟩ := ha46
      refine ⟨_, _, _, _, _, h46, br_i (fun hz => ?_) (fun hz => br_t ?_ ?_)⟩
      · have hz : (explM e5 3).1 = 0 := by simpa using hz
        obtain ⟨-, -, -, y, hy⟩ := explM_ok hz
        rw [hss] at hy
        subst hy
        obtain ⟨_, _, _, _, _, _, hcc, -, -, -, -, -, hnb, hsb⟩ := hel.out
        simp only [List.cons.injEq, AV.lsl.injEq] at hcc
        obtain ⟨-, -, -, -, ⟨rfl, -, rfl, -, rfl⟩, -⟩ := hcc
        have hnlb : nlb = false := by
          cases nlb
          · rfl
          · exact absurd (hnb rfl) (by simp)
        simp only [ElsA] at hsb
        obtain ⟨cy, ty, rfl, hy, -⟩ := hsb
        obtain ⟨cY, kY, nY, bsY, ssY⟩ := y
        obtain ⟨_, _, _, _, _, _, rfl, -⟩ := hy.out
        have hx5 : extM e5 = if cY = 0 ∧ kY = true ∧ nY = 16 then ([], 0) else ([0], 9) := by
          unfold extM
          rw [if_neg (by simp [hz]), hss]
          rfl
        rw [hx5] at hR
        refine ⟨hnlb, by omega, by simp, _, _, _, _, _, _, _, _, _, _, _, _, rfl, br_i (fun ht => ?_) (fun ht => ?_)⟩
        · have ht : ¬ (cY = 0 ∧ kY = true ∧ nY = 16) := by
            intro ⟨h1, h2, h3⟩; subst h1; subst h2; subst h3; simp at ht
          rw [if_neg ht] at hR
          obtain ⟨b47, hb47, h47⟩ := sum47 0 (fa_nil 9) (by simp)
          have hb470 := hb47
          obtain ⟨_, _, _, rfl, -⟩ := hb47
          refine ⟨_, _, _, _, _, h47, br_t (by simp [underM]) ?_⟩
          exact fin42 hb470 (by simp [underM]) (si_pS hk) (by simp) (by simp [underM]) (by rw [hR]; rfl)
        · have ht : cY = 0 ∧ kY = true ∧ nY = 16 := by
            simp at ht; exact ht
          rw [if_pos ht] at hR
          exact br_f (by simp [hz]) (hgood _ (by rw [hR]; rfl))
      · simpa using hz
      · have hz : (explM e5 3).1 ≠ 0 := by simpa using hz
        have hx5 : extM e5 = ((explM e5 3).2, (explM e5 3).1) := by
          unfold extM
          rw [if_pos hz]
        rw [hx5] at hR
        exact fin42 ha460 (by omega) (si_pS hk) (by simp) hz (by rw [hR, if_pos hz])
    · have h7 : v ≠ 1 := by simpa using h7
      have h8 : v ≠ 2 := by simpa using h8
      have hk : k10 < 0 := by
        rcases Int.lt_or_le k10 0 with h | h
        · exact h
        · rw [pl_pos h] at h9; cases h9
      unfold of3 of4 at hR
      simp only [h7, h8, false_and, false_or, if_false, List.getD_cons_succ, List.getD_cons_zero, hk, if_true] at hR
      exact hgood _ hR
  · have hk1 : k1 < 0 := by
      rcases Int.lt_or_le k1 0 with h | h
      · exact h
      · rw [pl_pos h] at h5; cases h5
    unfold of2 at hR
    rw [show List.getD [k1, k2, k3, k4, k5, k6, k7, k8, k9, k10] 0 (-1) = k1 from rfl, if_pos hk1, h3 1 rfl] at hR
    by_cases h8 : 0 ≤ k8
    · rw [if_pos h8] at hR
      exact br_t (pl_pos h8) (hbad _ h8 hR)
    rw [if_neg h8] at hR
    refine br_f (pl_neg h8) ?_
    by_cases h9 : 0 ≤ k9
    · rw [if_pos h9] at hR
      exact br_t (pl_pos h9) (hbad _ h9 hR)
    rw [if_neg h9] at hR
    refine br_f (pl_neg h9) ?_
    by_cases h10 : 0 ≤ k10
    · rw [if_pos h10] at hR
      exact br_t (pl_pos h10) (hbad _ h10 hR)
    rw [if_neg h10] at hR
    exact br_f (pl_neg h10) (br_f (pl_neg h10) (hgood _ hR))

end Go.Vid
