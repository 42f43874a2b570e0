/-
Numbers, faults under indices: summaries.
-/
import Derived.Test.YtnjlocjikfbgdaaDoorWC
set_option linter.all false
namespace Go.Vid
open Go.Proofs
set_option maxRecDepth 100000
set_option linter.unusedVariables false
section
open AExit AOut AV IntKind
theorem vc78 (nlb : Bool) (lenb : Nat) (csb : List AV) (cpb : Option Nat) (K : AOut → Prop) : (dataT Tryd.prog env [(78, { ops := [(1, [(3, Kd.b), (5, Kd.w), (8, Kd.b), (10, Kd.w), (16, Kd.w), (14, Kd.b), (19, Kd.b), (21, Kd.w)])] })] 78 [lsl nlb 0 csb lenb cpb] K) =
    (br (decide ((↑lenb : Int) > (1 : Int))) (nlb = false ∧ (0 : Int) ≤ (0 : Int) ∧ (0 : Int) < (↑lenb : Int) ∧ ∃ z1 cs2, csb = int u8 z1 :: cs2 ∧ br (z1 == (0 : Int)) (nlb = false ∧ (0 : Int) ≤ (1 : Int) ∧ (1 : Int) < (↑lenb : Int) ∧ ∃ z3 cs4, List.drop 1 csb = int u8 z3 :: cs4 ∧ br (decide (z3 < (128 : Int))) (K (AOut.ret (AV.bool true))) (nlb = false ∧ (0 : Int) ≤ (0 : Int) ∧ (0 : Int) < (↑lenb : Int) ∧ ∃ z5 cs6, csb = int u8 z5 :: cs6 ∧ br (z5 == (255 : Int)) (nlb = false ∧ (0 : Int) ≤ (1 : Int) ∧ (1 : Int) < (↑lenb : Int) ∧ ∃ z7 cs8, List.drop 1 csb = int u8 z7 :: cs8 ∧ K (AOut.ret (AV.bool (decide (z7 ≥ (128 : Int)))))) (K (AOut.ret (AV.bool false))))) (nlb = false ∧ (0 : Int) ≤ (0 : Int) ∧ (0 : Int) < (↑lenb : Int) ∧ ∃ z9 cs10, csb = int u8 z9 :: cs10 ∧ br (z9 == (255 : Int)) (nlb = false ∧ (0 : Int) ≤ (1 : Int) ∧ (1 : Int) < (↑lenb : Int) ∧ ∃ z11 cs12, List.drop 1 csb = int u8 z11 :: cs12 ∧ K (AOut.ret (AV.bool (decide (z11 ≥ (128 : Int)))))) (K (AOut.ret (AV.bool false))))) (K (AOut.ret (AV.bool false)))) := by kernel_rfl
theorem vc39 (fe : Int) (nlf nlp : Bool) (lenf lenp : Nat) (csf csp : List AV) (cpf cpp : Option Nat) (K : AOut → Prop) : (dataT Tryd.prog env [(39, { ops := [(1, [(1, Kd.w), (4, Kd.w)])], lax := [3] })] 39 [agg [lsl nlf 0 csf lenf cpf, int i64 fe], lsl nlp 0 csp lenp cpp] K) =
    (lenp * 1 ≤ List.length csp ∧ br (Nat.beq lenp 0) (lenf * 1 ≤ List.length csf ∧ br (Nat.beq lenf 0) (K (AOut.ret (agg [nilS, int i64 fe]))) ((true = true ∨ some 0 = some 0) ∧ 0 ≤ 0 ∧ (0 + lenf) * 8 ≤ 70368744177664 ∧ 0 + lenf ≤ 70368744177664 ∧ tagLeL 0 ([] ++ List.take (lenf * 1) csf) = true ∧ K (AOut.ret (agg [lsl false 0 (List.drop 0 ([] ++ List.take (lenf * 1) csf)) (0 + lenf) none, int i64 fe])))) ((true = true ∨ some 0 = some 0) ∧ 0 ≤ 0 ∧ (0 + lenp) * 8 ≤ 70368744177664 ∧ 0 + lenp ≤ 70368744177664 ∧ lenf * 1 ≤ List.length csf ∧ br (Nat.beq lenf 0) (tagLeL 0 ([] ++ List.take (lenp * 1) csp) = true ∧ K (AOut.ret (agg [lsl false 0 (List.drop 0 ([] ++ List.take (lenp * 1) csp)) (0 + lenp) none, int i64 fe]))) (List.length ([] ++ List.take (lenp * 1) csp) = (0 + lenp) * 1 ∧ (0 + lenp + lenf) * 8 ≤ 70368744177664 ∧ 0 + lenp + lenf ≤ 70368744177664 ∧ tagLeL 0 ([] ++ List.take (lenp * 1) csp ++ List.take (lenf * 1) csf) = true ∧ K (AOut.ret (agg [lsl false 0 (List.drop 0 ([] ++ List.take (lenp * 1) csp ++ List.take (lenf * 1) csf)) (0 + lenp + lenf) none, int i64 fe]))))) := by kernel_rfl
abbrev tb_r60 : List (FuncId × Sc) := [(60, { ops := [(8, [(0, Kd.w)])] })]
theorem r60 (n i : Int) (nls : Bool) (lens : Nat) (css : List AV) (cps : Option Nat) (K : AExit → List (Nat × AV) → St → Prop) : (roundT Tryd.prog env tb_r60 60 (bodyL Tryd.f60 1) 0 38 [4, 25, 26, 27] [4] [(4, int i64 n), (25, lsl nls 0 css lens cps), (26, int i64 (↑lens : Int)), (27, int i64 i)] ⟨[], 0⟩ K) =
    (br (decide (i < (↑lens : Int))) (nls = false ∧ (0 : Int) ≤ i ∧ i < (↑lens : Int) ∧ ∃ z1 cs2, List.drop (Int.toNat i * 1) css = int u8 z1 :: cs2 ∧ K normal [(4, int i64 (wrap i64 (↑(Int.toNat (wrap i64 (n * (256 : Int)) % (18446744073709551616 : Int)) ||| Int.toNat (wrap i64 z1 % (18446744073709551616 : Int))) : Int))), (25, lsl nls 0 css lens cps), (26, int i64 (↑lens : Int)), (27, int i64 (wrap i64 (i + (1 : Int))))] ⟨[], 0⟩) (K (exit 1) [(4, int i64 n)] ⟨[], 0⟩)) := by kernel_rfl
theorem vc60 (nlb : Bool) (lenb : Nat) (csb : List AV) (cpb : Option Nat) (K : AOut → Prop) : (dataT Tryd.prog env [(60, { ops := [(1, [(3, Kd.b)]), (5, [(1, Kd.w)]), (6, [(1, Kd.w)])], loops := [(1, LoopS.inv [4, 25, 26, 27] fun _ σ => Sh.int fun n => Sh.one (exit 1, [(4, int i64 n)], σ))] })] 60 [lsl nlb 0 csb lenb cpb] K) =
    (br ((↑lenb : Int) == (0 : Int)) (K (AOut.ret (tup [int i64 0, int i64 11]))) (∃ b1, Sm 78 [lsl nlb 0 csb lenb cpb] ((AV.bool b1)) ∧ br b1 (K (AOut.ret (tup [int i64 0, int i64 11]))) (br (decide ((↑lenb : Int) > (8 : Int))) (K (AOut.ret (tup [int i64 0, int i64 3]))) (nlb = false ∧ (0 : Int) ≤ (0 : Int) ∧ (0 : Int) < (↑lenb : Int) ∧ ∃ z2 cs3, csb = int u8 z2 :: cs3 ∧ (0 : Int) ≤ (1 : Int) ∧ (1 : Int) ≤ (↑lenb : Int) ∧ ∃ z4, Cd 0 (Code.loop (bodyL Tryd.f60 1)) (frOf 38 [(4, int i64 (wrap i64 (wrap i8 z2))), (25, lsl nlb 0 (if lenb = 1 then [] else List.drop 1 csb) (lenb - 1) (Option.map (fun x => x - Int.toNat (1 : Int)) cpb)), (26, int i64 (↑(lenb - 1) : Int)), (27, int i64 0)]) ⟨[], 0⟩ (exit 1) (frOf 38 [(4, int i64 z4)]) ⟨[], 0⟩ ∧ K (AOut.ret (tup [int i64 z4, int i64 0])))))) := by kernel_rfl
abbrev tb_r42 : List (FuncId × Sc) := [(42, { ops := [(4, [(2, Kd.w)])] })]
theorem r42 (i fe ge : Int) (nlp nlf nlg : Bool) (lenp lenf leng : Nat) (csp csf csg : List AV) (cpp cpf cpg : Option Nat) (K : AExit → List (Nat × AV) → St → Prop) : (roundT Tryd.prog env tb_r42 42 (bodyL Tryd.f42 0) 0 22 [2, 1, 6, 4, 5] [2, 4, 5] [(2, ref 0 0), (1, lsl nlp 0 csp lenp cpp), (6, int i64 i), (4, ref 1 0), (5, ref 2 0)] ⟨[some (AObj.cells [lsl nlf 0 csf lenf cpf, int i64 fe] 50 false), some (AObj.cells skel0 62 false), some (AObj.cells [lsl nlg 0 csg leng cpg, int i64 ge] 50 false)], 0⟩ K) =
    (br (decide (i ≥ (0 : Int))) (nlp = false ∧ (0 : Int) ≤ i ∧ i < (↑lenp : Int) ∧ ∃ z1 cs2, List.drop (Int.toNat i * 1) csp = int i64 z1 :: cs2 ∧ ∃ b3 cs4 n5 cp6 z7, Sm 47 [int i64 z1, agg [lsl nlf 0 csf lenf cpf, int i64 fe]] ((agg [lsl b3 0 cs4 n5 cp6, int i64 z7])) ∧ K normal [(2, ref 0 0), (1, lsl nlp 0 csp lenp cpp), (6, int i64 (wrap i64 (i - (1 : Int)))), (4, ref 1 0), (5, ref 2 0)] ⟨[some (AObj.cells [lsl b3 0 cs4 n5 cp6, int i64 z7] 50 false), some (AObj.cells skel0 62 false), some (AObj.cells [lsl nlg 0 csg leng cpg, int i64 ge] 50 false)], 0⟩) (K (exit 0) [(2, ref 0 0), (4, ref 1 0), (5, ref 2 0)] ⟨[some (AObj.cells [lsl nlf 0 csf lenf cpf, int i64 fe] 50 false), some (AObj.cells skel0 62 false), some (AObj.cells [lsl nlg 0 csg leng cpg, int i64 ge] 50 false)], 0⟩)) := by kernel_rfl
theorem vc42 (fe : Int) (nlf nlp : Bool) (lenf lenp : Nat) (csf csp : List AV) (cpf cpp : Option Nat) (K : AOut → Prop) : (dataT Tryd.prog env [(42, { loops := [(0, LoopS.inv [2, 1, 6, 4, 5] fun _ σ => Sh.bool fun nl => Sh.cells fun cs => Sh.nat fun len => Sh.cap fun cp => Sh.int fun e => Sh.one (exit 0, [(2, ref 0 0), (4, ref 1 0), (5, ref 2 0)], ⟨[some (AObj.cells [lsl nl 0 cs len cp, int i64 e] 50 false), List.getD (St.objs σ) 1 none, List.getD (St.objs σ) 2 none], 0⟩))] })] 42 [agg [lsl nlf 0 csf lenf cpf, int i64 fe], lsl nlp 0 csp lenp cpp] K) =
    (∃ b1 cs2 n3 cp4 z5, Cd 0 (Code.loop (bodyL Tryd.f42 0)) (frOf 22 [(2, ref 0 0), (1, lsl nlp 0 csp lenp cpp), (6, int i64 (wrap i64 ((↑lenp : Int) - (1 : Int)))), (4, ref 1 0), (5, ref 2 0)]) ⟨[some (AObj.cells [lsl nlf 0 csf lenf cpf, int i64 fe] 50 false), some (AObj.cells skel0 62 false), some (AObj.cells [nilS, int i64 0] 50 false)], 0⟩ (exit 0) (frOf 22 [(2, ref 0 0), (4, ref 1 0), (5, ref 2 0)]) ⟨[some (AObj.cells [lsl b1 0 cs2 n3 cp4, int i64 z5] 50 false), some (AObj.cells skel0 62 false), some (AObj.cells [nilS, int i64 0] 50 false)], 0⟩ ∧ K (AOut.ret (tup [agg skel0, agg [lsl b1 0 cs2 n3 cp4, int i64 z5]]))) := by kernel_rfl
theorem vc44 (ec en : Int) (ek nle1 nle2 : Bool) (lene1 lene2 : Nat) (cse1 cse2 : List AV) (cpe1 cpe2 : Option Nat) (K : AOut → Prop) : (dataT Tryd.prog env [(44, { ops := [(4, [(2, Kd.w), (6, Kd.w)]), (6, [(2, Kd.w)]), (10, [(2, Kd.b)])] })] 44 [agg [int u8 ec, AV.bool ek, int u32 en, lsl nle1 0 cse1 lene1 cpe1, lsl nle2 0 cse2 lene2 cpe2]] K) =
    (∃ b1 cs2 n3 cp4 z5, Sm 46 [agg [int u8 ec, AV.bool ek, int u32 en, lsl nle1 0 cse1 lene1 cpe1, lsl nle2 0 cse2 lene2 cpe2], int u32 0] ((agg [lsl b1 0 cs2 n3 cp4, int i64 z5])) ∧ br (z5 != (0 : Int)) (K (AOut.ret (tup [int i64 0, agg [lsl b1 0 cs2 n3 cp4, int i64 z5]]))) (nle2 = false ∧ (0 : Int) ≤ (0 : Int) ∧ (0 : Int) < (↑lene2 : Int) ∧ ∃ z6 b7 z8 b9 cs10 n11 cp12 b13 cs14 n15 cp16 cs17, cse2 = int u8 z6 :: AV.bool b7 :: int u32 z8 :: lsl b9 0 cs10 n11 cp12 :: lsl b13 0 cs14 n15 cp16 :: cs17 ∧ br (!(z6 == (0 : Int) && (b7 == false && z8 == (2 : Int)))) (∃ b18 cs19 n20 cp21 z22, Sm 47 [int i64 0, agg [nilS, int i64 9]] ((agg [lsl b18 0 cs19 n20 cp21, int i64 z22])) ∧ K (AOut.ret (tup [int i64 0, agg [lsl b18 0 cs19 n20 cp21, int i64 z22]]))) (nle2 = false ∧ (0 : Int) ≤ (0 : Int) ∧ (0 : Int) < (↑lene2 : Int) ∧ ∃ z23 b24 z25 b26 cs27 n28 cp29 b30 cs31 n32 cp33 cs34, cse2 = int u8 z23 :: AV.bool b24 :: int u32 z25 :: lsl b26 0 cs27 n28 cp29 :: lsl b30 0 cs31 n32 cp33 :: cs34 ∧ ∃ z35 z36, Sm 60 [lsl b26 0 cs27 n28 cp29] ((tup [int i64 z35, int i64 z36])) ∧ br (z36 != (0 : Int)) (∃ b37 cs38 n39 cp40 z41, Sm 47 [int i64 0, agg [nilS, int i64 z36]] ((agg [lsl b37 0 cs38 n39 cp40, int i64 z41])) ∧ K (AOut.ret (tup [int i64 (wrap i64 (z35 + (1 : Int))), agg [lsl b37 0 cs38 n39 cp40, int i64 z41]]))) (br (z35 == (0 : Int)) (∃ b42 cs43 n44 cp45 z46, Sm 47 [int i64 0, agg [nilS, int i64 11]] ((agg [lsl b42 0 cs43 n44 cp45, int i64 z46])) ∧ K (AOut.ret (tup [int i64 (wrap i64 (z35 + (1 : Int))), agg [lsl b42 0 cs43 n44 cp45, int i64 z46]]))) (br (z35 != (1 : Int)) (br (z35 != (2 : Int)) (∃ b47 cs48 n49 cp50 z51, Sm 47 [int i64 0, agg [nilS, int i64 16]] ((agg [lsl b47 0 cs48 n49 cp50, int i64 z51])) ∧ K (AOut.ret (tup [int i64 (wrap i64 (z35 + (1 : Int))), agg [lsl b47 0 cs48 n49 cp50, int i64 z51]]))) (∃ b52 cs53 n54 cp55 z56, Sm 47 [int i64 0, agg [nilS, int i64 z36]] ((agg [lsl b52 0 cs53 n54 cp55, int i64 z56])) ∧ K (AOut.ret (tup [int i64 (wrap i64 (z35 + (1 : Int))), agg [lsl b52 0 cs53 n54 cp55, int i64 z56]])))) (∃ b57 cs58 n59 cp60 z61, Sm 47 [int i64 0, agg [nilS, int i64 z36]] ((agg [lsl b57 0 cs58 n59 cp60, int i64 z61])) ∧ K (AOut.ret (tup [int i64 (wrap i64 (z35 + (1 : Int))), agg [lsl b57 0 cs58 n59 cp60, int i64 z61]])))))))) := by kernel_rfl
theorem vc40 (ec en : Int) (ek nle1 nle2 th : Bool) (lene1 lene2 : Nat) (cse1 cse2 : List AV) (cpe1 cpe2 : Option Nat) (K : AOut → Prop) : (dataT Tryd.prog env [(27, { inl := true }), (28, { inl := true }), (40, { ops := [(3, [(2, Kd.w)]), (6, [(2, Kd.w), (5, Kd.w)]), (7, [(3, Kd.w)]), (10, [(2, Kd.b)]), (12, [(2, Kd.b), (6, Kd.b)])] })] 40 [agg [int u8 ec, AV.bool ek, int u32 en, lsl nle1 0 cse1 lene1 cpe1, lsl nle2 0 cse2 lene2 cpe2], AV.bool th] K) =
    (br (!th) (K (AOut.ret (tup [int i64 1, agg [nilS, int i64 0]]))) (nle2 = false ∧ (0 : Int) ≤ (0 : Int) ∧ (0 : Int) < (↑lene2 : Int) ∧ ∃ z1 b2 z3 b4 cs5 n6 cp7 b8 cs9 n10 cp11 cs12, cse2 = int u8 z1 :: AV.bool b2 :: int u32 z3 :: lsl b4 0 cs5 n6 cp7 :: lsl b8 0 cs9 n10 cp11 :: cs12 ∧ ∃ b13 cs14 n15 cp16 z17, Sm 41 [agg [int u8 z1, AV.bool b2, int u32 z3, lsl b4 0 cs5 n6 cp7, lsl b8 0 cs9 n10 cp11], int u32 0] ((agg [lsl b13 0 cs14 n15 cp16, int i64 z17])) ∧ br (z17 != (0 : Int)) (∃ b18 cs19 n20 cp21 z22, Sm 39 [agg [lsl b13 0 cs14 n15 cp16, int i64 z17], lsl false 0 [int i64 0, int i64 0] 2 (some 2)] ((agg [lsl b18 0 cs19 n20 cp21, int i64 z22])) ∧ K (AOut.ret (tup [int i64 0, agg [lsl b18 0 cs19 n20 cp21, int i64 z22]]))) (nle2 = false ∧ (0 : Int) ≤ (0 : Int) ∧ (0 : Int) < (↑lene2 : Int) ∧ ∃ z23 b24 z25 b26 cs27 n28 cp29 b30 cs31 n32 cp33 cs34, cse2 = int u8 z23 :: AV.bool b24 :: int u32 z25 :: lsl b26 0 cs27 n28 cp29 :: lsl b30 0 cs31 n32 cp33 :: cs34 ∧ b30 = false ∧ (0 : Int) ≤ (0 : Int) ∧ (0 : Int) < (↑n32 : Int) ∧ ∃ z35 b36 z37 b38 cs39 n40 cp41 b42 cs43 n44 cp45 cs46, cs31 = int u8 z35 :: AV.bool b36 :: int u32 z37 :: lsl b38 0 cs39 n40 cp41 :: lsl b42 0 cs43 n44 cp45 :: cs46 ∧ br (!(z35 == (0 : Int) && (b36 == false && z37 == (2 : Int)))) (K (AOut.ret (tup [int i64 0, agg [lsl false 0 [int i64 0, int i64 0, int i64 0] 3 (some 3), int i64 9]]))) (∃ z47 z48, Sm 60 [lsl b38 0 cs39 n40 cp41] ((tup [int i64 z47, int i64 z48])) ∧ br (z48 == (0 : Int)) (br (z47 == (0 : Int)) (K (AOut.ret (tup [int i64 0, agg [lsl false 0 [int i64 0, int i64 0, int i64 0] 3 (some 3), int i64 11]]))) (br (z48 == (0 : Int)) (br (z47 != (1 : Int)) (br (z47 != (2 : Int)) (K (AOut.ret (tup [int i64 0, agg [lsl false 0 [int i64 0, int i64 0, int i64 0] 3 (some 3), int i64 16]]))) (br (z48 != (0 : Int)) (K (AOut.ret (tup [int i64 0, agg [lsl false 0 [int i64 0, int i64 0, int i64 0] 3 (some 3), int i64 z48]]))) (K (AOut.ret (tup [int i64 (wrap i64 (z47 + (1 : Int))), agg [nilS, int i64 0]]))))) (br (z48 != (0 : Int)) (K (AOut.ret (tup [int i64 0, agg [lsl false 0 [int i64 0, int i64 0, int i64 0] 3 (some 3), int i64 z48]]))) (K (AOut.ret (tup [int i64 (wrap i64 (z47 + (1 : Int))), agg [nilS, int i64 0]]))))) (br (z48 != (0 : Int)) (K (AOut.ret (tup [int i64 0, agg [lsl false 0 [int i64 0, int i64 0, int i64 0] 3 (some 3), int i64 z48]]))) (K (AOut.ret (tup [int i64 (wrap i64 (z47 + (1 : Int))), agg [nilS, int i64 0]])))))) (br (z48 == (0 : Int)) (br (z47 != (1 : Int)) (br (z47 != (2 : Int)) (K (AOut.ret (tup [int i64 0, agg [lsl false 0 [int i64 0, int i64 0, int i64 0] 3 (some 3), int i64 16]]))) (br (z48 != (0 : Int)) (K (AOut.ret (tup [int i64 0, agg [lsl false 0 [int i64 0, int i64 0, int i64 0] 3 (some 3), int i64 z48]]))) (K (AOut.ret (tup [int i64 (wrap i64 (z47 + (1 : Int))), agg [nilS, int i64 0]]))))) (br (z48 != (0 : Int)) (K (AOut.ret (tup [int i64 0, agg [lsl false 0 [int i64 0, int i64 0, int i64 0] 3 (some 3), int i64 z48]]))) (K (AOut.ret (tup [int i64 (wrap i64 (z47 + (1 : Int))), agg [nilS, int i64 0]]))))) (br (z48 != (0 : Int)) (K (AOut.ret (tup [int i64 0, agg [lsl false 0 [int i64 0, int i64 0, int i64 0] 3 (some 3), int i64 z48]]))) (K (AOut.ret (tup [int i64 (wrap i64 (z47 + (1 : Int))), agg [nilS, int i64 0]]))))))))) := by kernel_rfl
end

/-- Can the first octet be left out? -/
def supM : List Int → Bool
  | b0 :: b1 :: _ => (b0 == 0 && decide (b1 < 128)) || (b0 == 255 && decide (b1 ≥ 128))
  | _ => false

theorem SI.cells_at {k : IntKind} {l : List Int} {ex : List AV} {i : Nat} (h : i < l.length) : (l.map (AV.int k) ++ ex).drop i = .int k l[i] :: (l.map (AV.int k) ++ ex).drop (i + 1) := by
  have h2 : i < (l.map (AV.int k) ++ ex).length := by simp; omega
  rw [List.drop_eq_getElem_cons h2]
  simp [List.getElem_append_left, h]

theorem sum78 {l : List Int} {a : AV} (h : SI .u8 l a) : Sm 78 [a] (.bool (supM l)) := by
  obtain ⟨nl, ex, cp, rfl, hc, hl, hn⟩ := h
  refine sum_vc (vc78 ..) ?_
  match l, hn with
  | [], _ => exact br_f (by simp) rfl
  | [_], _ => exact br_f (by simp) rfl
  | b0 :: b1 :: r, hn =>
    have hnl : nl = false := by
      cases nl
      · rfl
      · exact absurd (hn rfl) (by simp)
    have hd0 : (b0 :: b1 :: r).map (AV.int .u8) ++ ex = .int .u8 b0 :: ((b1 :: r).map (AV.int .u8) ++ ex) := rfl
    have hd1 : List.drop 1 ((b0 :: b1 :: r).map (AV.int .u8) ++ ex) = .int .u8 b1 :: (r.map (AV.int .u8) ++ ex) := rfl
    refine br_t (by simp; omega) ⟨hnl, by omega, by simp; omega, b0, _, hd0, ?_⟩
    by_cases h0 : b0 = 0
    · refine br_t (by simpa using h0) ⟨hnl, by omega, by simp; omega, b1, _, hd1, ?_⟩
      refine br_i (fun h1 => ?_) (fun h1 => ⟨hnl, by omega, by simp; omega, b0, _, hd0, br_f (by simp; omega) ?_⟩)
      · simp at h1; simp [supM, h0, h1]
      · simp at h1; simp [supM, h0]; omega
    · refine br_f (by simpa using h0) ⟨hnl, by omega, by simp; omega, b0, _, hd0, ?_⟩
      refine br_i (fun h1 => ⟨hnl, by omega, by simp; omega, b1, _, hd1, ?_⟩) (fun h1 => ?_)
      · simp at h1; simp [supM, h1]
      · simp at h1; simp [supM, h0, h1]

def intStep (n x : Int) : Int := IntKind.i64.wrap (((Int.toNat (IntKind.i64.wrap (n * 256) % 18446744073709551616) ||| Int.toNat (IntKind.i64.wrap x % 18446744073709551616) : Nat)) : Int)

/-- GetInt: the number, the error. -/
def getInt (l : List Int) : Int × Int := match l with
  | [] => (0, 11)
  | b :: r => if supM (b :: r) = true then (0, 11) else if r.length + 1 > 8 then (0, 3) else (r.foldl intStep (IntKind.i64.wrap (IntKind.i8.wrap b)), 0)

theorem loop60 {r : List Int} {nl : Bool} {ex : List AV} {cp : Option Nat} (hl : r.length ≤ 7) (hn : nl = true → r = []) :
    ∀ (x : Nat × Int) (kvs : List (Nat × AV)) (σ : St), (x.1 ≤ r.length ∧ kvs = [(4, .int .i64 x.2), (25, .lsl nl 0 (r.map (AV.int .u8) ++ ex) r.length cp), (26, .int .i64 r.length), (27, .int .i64 x.1)] ∧ σ = ⟨[], 0⟩) →
      ∃ ae kvs' σ', (ae = .exit 1 ∧ kvs' = [(4, .int .i64 ((r.drop x.1).foldl intStep x.2))] ∧ σ' = ⟨[], 0⟩) ∧ Cd 0 (.loop (bodyL Tryd.f60 1)) (frOf 38 kvs) σ ae (frOf 38 kvs') σ' := by
  refine loop_by (tb := tb_r60) (f := 60) (c := bodyL Tryd.f60 1) (k := 0) (N := 38) (keepN := [4, 25, 26, 27]) (keepX := [4]) env_ok _ _ (fun x => r.length - x.1) ?_
  rintro ⟨i, n⟩ kvs σ ⟨hi, rfl, rfl⟩
  simp only at hi ⊢
  rw [r60]
  refine br_i (fun hlt => ?_) (fun hge => ?_)
  · have hlt : i < r.length := by have := of_decide_eq_true hlt; omega
    have hnl : nl = false := by
      cases nl
      · rfl
      · rw [hn rfl] at hlt; simp at hlt
    have hw : IntKind.i64.wrap ((i : Int) + 1) = ((i + 1 : Nat) : Int) := by rw [wrap_small (by omega) (by omega)]; simp
    refine ⟨hnl, by omega, by omega, _, _, by rw [Int.toNat_natCast, Nat.mul_one]; exact SI.cells_at hlt, ?_⟩
    refine ⟨(i + 1, intStep n r[i]), by simp only; omega, ⟨hlt, by rw [hw]; rfl, rfl⟩, fun ae kvs σ ⟨h1, h2, h3⟩ => ⟨h1, ?_, h3⟩⟩
    rw [h2, List.drop_eq_getElem_cons hlt]; rfl
  · have hge : i = r.length := by have := of_decide_eq_false hge; omega
    rw [hge, List.drop_length]
    exact ⟨rfl, rfl, rfl⟩

theorem sum60 {l : List Int} {a : AV} (h : SI .u8 l a) : Sm 60 [a] (.tup [.int .i64 (getInt l).1, .int .i64 (getInt l).2]) := by
  have h78 := sum78 h
  obtain ⟨nl, ex, cp, rfl, hc, hl, hn⟩ := h
  refine sum_vc (vc60 ..) ?_
  match l, hn with
  | [], _ => exact br_t (by simp) rfl
  | b :: r, hn =>
    have hnl : nl = false := by
      cases nl
      · rfl
      · exact absurd (hn rfl) (by simp)
    refine br_f (by simp; omega) ⟨_, h78, ?_⟩
    have hg : getInt (b :: r) = if supM (b :: r) = true then (0, 11) else if r.length + 1 > 8 then (0, 3) else (r.foldl intStep (IntKind.i64.wrap (IntKind.i8.wrap b)), 0) := rfl
    rw [hg]
    refine br_i (fun h1 => ?_) (fun h1 => ?_)
    · rw [if_pos h1]
    · rw [if_neg (show ¬ supM (b :: r) = true by simp [h1])]
      by_cases h8 : r.length + 1 > 8
      · rw [if_pos h8]
        refine br_t ?_ rfl
        simp; omega
      · rw [if_neg h8]
        refine br_f (by simp; omega) ⟨hnl, by omega, by simp only [List.length_cons]; omega, b, _, rfl, by omega, by simp only [List.length_cons]; omega, ?_⟩
        have hsl : (if (b :: r).length = 1 then [] else List.drop 1 ((b :: r).map (AV.int .u8) ++ ex)) = r.map (AV.int .u8) ++ (if r = [] then [] else ex) := by
          cases r with
          | nil => simp
          | cons y ys => simp
        obtain ⟨ae, kvs', σ', ⟨rfl, rfl, rfl⟩, hcd⟩ := loop60 (r := r) (nl := nl) (ex := if r = [] then [] else ex) (cp := Option.map (fun x => x - Int.toNat 1) cp) (by omega) (by rw [hnl]; simp) (0, IntKind.i64.wrap (IntKind.i8.wrap b)) _ _ ⟨by simp, rfl, rfl⟩
        refine ⟨_, ?_, rfl⟩
        rw [hsl]
        exact hcd

/-- Indices in front of a fault's path. -/
def undAll : List Int → List Int → Int → List Int × Int
  | [], path, err => (path, err)
  | i :: r, path, err => underM i (undAll r path err).1 (undAll r path err).2

theorem undAll_snoc (i : Int) : ∀ (r : List Int) (path : List Int) (err : Int), undAll (r ++ [i]) path err = undAll r (underM i path err).1 (underM i path err).2
  | [], _, _ => rfl
  | x :: r, path, err => by simp only [List.cons_append, undAll]; rw [undAll_snoc i r]

theorem undAll_eq : ∀ (p path : List Int) (err : Int), undAll p path err = if err = 0 then (if p = [] then (path, 0) else ([], 0)) else (p ++ path, err)
  | [], path, err => by
    simp only [undAll]
    split
    · simp_all
    · simp
  | i :: r, path, err => by
    simp only [undAll, undAll_eq r path err]
    by_cases he : err = 0
    · simp only [he, if_true]
      unfold underM
      split <;> simp
    · simp [he, underM]

theorem underM_len (i : Int) (path : List Int) (err : Int) : (underM i path err).1.length ≤ path.length + 1 := by
  unfold underM; split <;> simp

abbrev oSk : Option AObj := some (.cells skel0 62 false)

theorem loop42 {p : List Int} {nl : Bool} {ex : List AV} {cp : Option Nat} (hn : nl = true → p = []) (hl : p.length < 2 ^ 30) :
    ∀ (x : Nat × List Int × Int) (kvs : List (Nat × AV)) (σ : St), (x.1 ≤ p.length ∧ x.2.1.length + x.1 < 2 ^ 31 ∧ kvs = [(2, .ref 0 0), (1, .lsl nl 0 (p.map (AV.int .i64) ++ ex) p.length cp), (6, .int .i64 ((x.1 : Int) - 1)), (4, .ref 1 0), (5, .ref 2 0)] ∧
        ∃ fc, FA x.2.1 x.2.2 true (.agg fc) ∧ σ = ⟨[some (.cells fc 50 false), oSk, oF nilS 0], 0⟩) →
      ∃ ae kvs' σ', (ae = .exit 0 ∧ kvs' = [(2, .ref 0 0), (4, .ref 1 0), (5, .ref 2 0)] ∧ ∃ fc, FA (undAll (p.take x.1) x.2.1 x.2.2).1 (undAll (p.take x.1) x.2.1 x.2.2).2 true (.agg fc) ∧ σ' = ⟨[some (.cells fc 50 false), oSk, oF nilS 0], 0⟩) ∧
        Cd 0 (.loop (bodyL Tryd.f42 0)) (frOf 22 kvs) σ ae (frOf 22 kvs') σ' := by
  refine loop_by (tb := tb_r42) (f := 42) (c := bodyL Tryd.f42 0) (k := 0) (N := 22) (keepN := [2, 1, 6, 4, 5]) (keepX := [2, 4, 5]) env_ok _ _ (fun x => x.1) ?_
  rintro ⟨i, path, err⟩ kvs σ ⟨hi, hpl, rfl, fc, hfa, rfl⟩
  simp only at hi hpl hfa ⊢
  have hfa0 := hfa
  obtain ⟨nlf, xs, cpf, hfc, hcf, hxf, hnf, hlf⟩ := hfa
  simp only [AV.agg.injEq] at hfc
  subst hfc
  rw [r42]
  cases i with
  | zero =>
    refine br_f (by simp) ?_
    refine ⟨rfl, rfl, _, ?_, rfl⟩
    simpa [undAll] using hfa0
  | succ i =>
    have hlt : i < p.length := by omega
    have hnl : nl = false := by
      cases nl
      · rfl
      · rw [hn rfl] at hlt; simp at hlt
    have e1 : ((i + 1 : Nat) : Int) - 1 = (i : Int) := by omega
    rw [e1]
    obtain ⟨b, hb, hs⟩ := sum47 p[i] hfa0 (by omega)
    have hb0 := hb
    obtain ⟨nlb, xb, cpb, rfl, -⟩ := hb
    have hw : IntKind.i64.wrap ((i : Int) - 1) = (i : Int) - 1 := wrap_small (by omega) (by omega)
    refine br_t (by simp) ⟨hnl, by omega, by omega, p[i], _, by rw [Int.toNat_natCast, Nat.mul_one]; exact SI.cells_at hlt, _, _, _, _, _, hs, ?_⟩
    rw [hw]
    refine ⟨(i, (underM p[i] path err).1, (underM p[i] path err).2), by simp only; omega, ⟨by simp only; omega, by have := underM_len p[i] path err; simp only; omega, rfl, _, hb0, rfl⟩, ?_⟩
    rintro ae kvs σ ⟨h1, h2, fc, h3, h4⟩
    refine ⟨h1, h2, fc, ?_, h4⟩
    have : p.take (i + 1) = p.take i ++ [p[i]] := by simp [hlt]
    rw [this, undAll_snoc]
    exact h3

theorem sum42 {path : List Int} {err : Int} {a b : AV} {p : List Int} (h : FA path err true a) (hl : path.length < 2 ^ 30) (hp : SI .i64 p b) (hpl : p.length < 2 ^ 30) :
    ∃ v, FA (undAll p path err).1 (undAll p path err).2 true v ∧ Sm 42 [a, b] (.tup [.agg skel0, v]) := by
  have h0 := h
  obtain ⟨nlf, xs, cpf, rfl, hcf, hxf, hnf, hlf⟩ := h
  obtain ⟨nl, ex, cp, rfl, hc, hlp, hn⟩ := hp
  obtain ⟨ae, kvs', σ', ⟨rfl, rfl, fc, hfa, rfl⟩, hcd⟩ := loop42 (nl := nl) (ex := ex) (cp := cp) hn hpl (p.length, path, err) _ _ ⟨by simp, by simp only; omega, rfl, _, h0, rfl⟩
  simp only [List.take_length] at hfa
  have hfa0 := hfa
  obtain ⟨nl2, xs2, cp2, hfc, -⟩ := hfa
  simp only [AV.agg.injEq] at hfc
  subst hfc
  have hw : IntKind.i64.wrap ((p.length : Int) - 1) = (p.length : Int) - 1 := wrap_small (by omega) (by omega)
  exact ⟨_, hfa0, sum_vc (vc42 ..) ⟨_, _, _, _, _, by rw [hw]; exact hcd, rfl⟩⟩

/-- under, of the statements' text. -/
theorem sum39 {path : List Int} {err : Int} {ex : Bool} {a b : AV} {p : List Int} (h : FA path err ex a) (hl : path.length < 2 ^ 30) (hp : SI .i64 p b) (hpl : p.length < 2 ^ 30) : ∃ v, FA (p ++ path) err false v ∧ Sm 39 [a, b] v := by
  obtain ⟨nlf, xs, cpf, rfl, hcf, hxf, hnf, hlf⟩ := h
  obtain ⟨nl, ex, cp, rfl, hc, hlp, hn⟩ := hp
  have e1 : List.take (p.length * 1) (p.map (AV.int .i64) ++ ex) = p.map (AV.int .i64) := by rw [Nat.mul_one]; exact List.take_left' (List.length_map _)
  have e2 : List.take (path.length * 1) (path.map (AV.int .i64) ++ xs) = path.map (AV.int .i64) := by rw [Nat.mul_one]; exact List.take_left' (List.length_map _)
  refine sum_ex _ (vc39 ..) ?_
  rw [e1, e2]
  refine ⟨by simp, br_i (fun h1 => ?_) (fun h1 => ?_)⟩
  · have h1 : p = [] := List.length_eq_zero_iff.1 (Nat.eq_of_beq_eq_true h1)
    subst h1
    refine ⟨by simp, br_i (fun h2 => ?_) (fun h2 => ?_)⟩
    · have h2 : path = [] := List.length_eq_zero_iff.1 (Nat.eq_of_beq_eq_true h2)
      subst h2
      exact ⟨_, rfl, true, [], some 0, rfl, capOk_some, by simp, fun _ => rfl, by simp⟩
    · exact ⟨by simp, by omega, by omega, by omega, by simp, _, rfl, false, [], none, by simp, capOk_none, by simp, by simp, by simpa using hlf⟩
  · refine ⟨by simp, by omega, by omega, by omega, by simp, br_i (fun h2 => ?_) (fun h2 => ?_)⟩
    · have h2 : path = [] := List.length_eq_zero_iff.1 (Nat.eq_of_beq_eq_true h2)
      subst h2
      exact ⟨by simp, _, rfl, false, [], none, by simp, capOk_none, by simp, by simp, by simp; omega⟩
    · refine ⟨by simp, by omega, by omega, ?_, _, rfl, false, [], none, by simp, capOk_none, by simp, by simp, by simp; omega⟩
      rw [List.nil_append, ← List.map_append]; exact tagLeL_map _

def El.bs : El → List Int
  | .mk _ _ _ b _ => b

/-- The error of a version's number. -/
def verErr (r : Int × Int) : Int := if r.2 ≠ 0 then r.2 else if r.1 = 0 then 11 else if r.1 ≠ 1 ∧ r.1 ≠ 2 then 16 else 0

/-- What an element of the part Version tells: a number, a fault. -/
def verM (e : El) : Int × List Int × Int :=
  if (explM e 0).1 ≠ 0 then (0, (explM e 0).2, (explM e 0).1) else match e.subs with
  | [] => (0, [], 0)
  | x :: _ => if x.c = 0 ∧ x.k = false ∧ x.n = 2 then (IntKind.i64.wrap ((getInt x.bs).1 + 1), (underM 0 [] (verErr (getInt x.bs))).1, (underM 0 [] (verErr (getInt x.bs))).2) else (0, [0], 9)

theorem explM_ok {e : El} {m : Int} (h : (explM e m).1 = 0) : e.c = 2 ∧ e.k = true ∧ e.n = m ∧ ∃ x, e.subs = [x] := by
  unfold explM at h
  split at h
  · rename_i ht
    refine ⟨ht.1, ht.2.1, ht.2.2, ?_⟩
    split at h
    · cases h
    · split at h
      · cases h
      · rename_i h0 h1
        match hs : e.subs with
        | [] => simp [hs] at h0
        | [x] => exact ⟨x, rfl⟩
        | _ :: _ :: _ => simp [hs] at h1
  · cases h

theorem sum44 {e : El} {cells : List AV} (h : ElA e cells) : ∃ a, FA (verM e).2.1 (verM e).2.2 true a ∧ Sm 44 [.agg cells] (.tup [.int .i64 (verM e).1, a]) := by
  obtain ⟨f, hf, h46⟩ := sum46 h 0
  have hf0 := hf
  obtain ⟨nlf, xs, cpf, rfl, hcf, hxf, hnf, hlf⟩ := hf
  have h0 := h
  obtain ⟨c, k, n, bs, subs⟩ := e
  obtain ⟨nl1, ex1, cp1, nl2, cs2, cp2, rfl, hc1, hl1, hn1, hc2, hl2, hn2, hs⟩ := h.out
  have hend : ∃ v, (∃ a, FA (verM (.mk c k n bs subs)).2.1 (verM (.mk c k n bs subs)).2.2 true a ∧ v = .tup [.int .i64 (verM (.mk c k n bs subs)).1, a]) ∧ Sm 44 [.agg [.int .u8 c, .bool k, .int .u32 n, .lsl nl1 0 (bs.map (AV.int .u8) ++ ex1) bs.length cp1, .lsl nl2 0 cs2 subs.length cp2]] v := by
    refine sum_ex _ (vc44 ..) ?_
    refine ⟨_, _, _, _, _, h46, br_i (fun h1 => ?_) (fun h1 => ?_)⟩
    · have h1 : (explM (.mk c k n bs subs) 0).1 ≠ 0 := by simpa using h1
      have hv : verM (.mk c k n bs subs) = (0, (explM (.mk c k n bs subs) 0).2, (explM (.mk c k n bs subs) 0).1) := by unfold verM; rw [if_pos h1]
      rw [hv]
      exact ⟨_, rfl, _, hf0, rfl⟩
    · have h1 : (explM (.mk c k n bs subs) 0).1 = 0 := by simpa using h1
      obtain ⟨-, -, -, x, hx⟩ := explM_ok h1
      simp only [El.subs] at hx
      subst hx
      have hnl : nl2 = false := by
        cases nl2
        · rfl
        · exact absurd (hn2 rfl) (by simp)
      obtain ⟨xc, xk, xn, xbs, xss, m1, exx, cpx, m2, csx, cpx2, t, hget, hd, hel⟩ := hs.cell (i := 0) (by simp)
      simp at hget
      subst hget
      simp only [Nat.zero_mul, List.drop_zero] at hd
      have hv : verM (.mk c k n bs [.mk xc xk xn xbs xss]) = if xc = 0 ∧ xk = false ∧ xn = 2 then (IntKind.i64.wrap ((getInt xbs).1 + 1), (underM 0 [] (verErr (getInt xbs))).1, (underM 0 [] (verErr (getInt xbs))).2) else (0, [0], 9) := by
        unfold verM; rw [if_neg (by simpa using h1)]; rfl
      rw [hv]
      obtain ⟨ux1, ux2, ux3, ux4, ux5, ux6, ux7, ux8, _⟩ := hel.out
      have hbx : SI .u8 xbs (.lsl m1 0 (xbs.map (AV.int .u8) ++ exx) xbs.length cpx) := by
        obtain ⟨ux1, ux2, ux3, ux4, ux5, ux6, q1, q2, q3, q4, _⟩ := hel.out
        simp only [List.cons.injEq, AV.lsl.injEq, and_true, true_and] at q1
        obtain ⟨⟨rfl, q5, rfl⟩, -⟩ := q1
        exact ⟨m1, exx, cpx, rfl, q2, q3, q4⟩
      have h60 := sum60 hbx
      have hu : ∀ er : Int, ∃ b, FA (underM 0 [] er).1 (underM 0 [] er).2 true b ∧ Sm 47 [.int .i64 0, .agg [nilS, .int .i64 er]] b := fun er =>
        sum47 0 (path := []) (err := er) (ex := true) ⟨true, [], some 0, rfl, capOk_some, fun _ => rfl, fun _ => rfl, by simp⟩ (by simp)
      refine ⟨hnl, by omega, by simp, xc, xk, xn, _, _, _, _, _, _, _, _, _, hd, ?_⟩
      refine br_i (fun h2 => ?_) (fun h2 => ⟨hnl, by omega, by simp, xc, xk, xn, _, _, _, _, _, _, _, _, _, hd, _, _, h60, ?_⟩)
      · rw [if_neg (by rintro ⟨rfl, rfl, rfl⟩; simp at h2)]
        obtain ⟨b, hb, hsb⟩ := hu 9
        have hb0 := hb
        obtain ⟨q1, q2, q3, rfl, -⟩ := hb
        exact ⟨_, _, _, _, _, hsb, _, rfl, _, hb0, rfl⟩
      · rw [if_pos (by simpa using h2)]
        obtain ⟨gn, ge⟩ := getInt xbs
        simp only
        have fin : ∀ er : Int, verErr (gn, ge) = er → ∃ nlb csb lenb cpb eb, Sm 47 [.int .i64 0, .agg [nilS, .int .i64 er]] (.agg [.lsl nlb 0 csb lenb cpb, .int .i64 eb]) ∧ ∃ v, AOut.ret (.tup [.int .i64 (IntKind.i64.wrap (gn + 1)), .agg [.lsl nlb 0 csb lenb cpb, .int .i64 eb]]) = .ret v ∧
            ∃ a, FA (underM 0 [] (verErr (gn, ge))).1 (underM 0 [] (verErr (gn, ge))).2 true a ∧ v = .tup [.int .i64 (IntKind.i64.wrap (gn + 1)), a] := by
          intro er he
          obtain ⟨b, hb, hsb⟩ := hu er
          rw [he]
          have hb0 := hb
          obtain ⟨q1, q2, q3, rfl, -⟩ := hb
          exact ⟨_, _, _, _, _, hsb, _, rfl, _, hb0, rfl⟩
        refine br_i (fun h3 => fin _ ?_) (fun h3 => ?_)
        · have : ge ≠ 0 := by simpa using h3
          simp [verErr, this]
        · have h3 : ge = 0 := by simpa using h3
          subst h3
          refine br_i (fun h4 => fin _ ?_) (fun h4 => ?_)
          · have : gn = 0 := by simpa using h4
            simp [verErr, this]
          · have h4 : gn ≠ 0 := by simpa using h4
            refine br_i (fun h5 => br_i (fun h6 => fin _ ?_) (fun h6 => fin _ ?_)) (fun h5 => fin _ ?_)
            · have h5 : gn ≠ 1 := by simpa using h5
              have h6 : gn ≠ 2 := by simpa using h6
              simp [verErr, h4, h5, h6]
            · have h6 : gn = 2 := by simpa using h6
              simp [verErr, h6]
            · have h5 : gn = 1 := by simpa using h5
              simp [verErr, h5]
  obtain ⟨v, ⟨a, ha, rfl⟩, hsm⟩ := hend
  exact ⟨a, ha, hsm⟩

/-- The version, by the statements' text: a number, a fault. -/
def ver2 (subs : List El) (there : Bool) : Int × List Int × Int :=
  if there = false then (1, [], 0) else match subs with
  | [] => (0, [], 0)
  | x :: _ => if (verM x).2.2 ≠ 0 then (0, [0, 0] ++ (verM x).2.1, (verM x).2.2) else ((verM x).1, [], 0)

theorem sum40 {e : El} {cells : List AV} (h : ElA e cells) (th : Bool) (hth : th = true → e.subs ≠ []) : ∃ a, FA (ver2 e.subs th).2.1 (ver2 e.subs th).2.2 false a ∧ Sm 40 [.agg cells, .bool th] (.tup [.int .i64 (ver2 e.subs th).1, a]) := by
  obtain ⟨c, k, n, bs, subs⟩ := e
  obtain ⟨nl1, ex1, cp1, nl2, cs2, cp2, rfl, hc1, hl1, hn1, hc2, hl2, hn2, hs⟩ := h.out
  simp only [El.subs] at hth ⊢
  have hend : ∃ v, (∃ a, FA (ver2 subs th).2.1 (ver2 subs th).2.2 false a ∧ v = .tup [.int .i64 (ver2 subs th).1, a]) ∧ Sm 40 [.agg [.int .u8 c, .bool k, .int .u32 n, .lsl nl1 0 (bs.map (AV.int .u8) ++ ex1) bs.length cp1, .lsl nl2 0 cs2 subs.length cp2], .bool th] v := by
    refine sum_ex _ (vc40 ..) ?_
    have hnil : ∀ er : Int, FA [] er false (.agg [nilS, .int .i64 er]) := fun er => ⟨true, [], some 0, rfl, capOk_some, by simp, fun _ => rfl, by simp⟩
    refine br_i (fun ht => ?_) (fun ht => ?_)
    · have ht : th = false := by simpa using ht
      subst ht
      exact ⟨_, rfl, _, hnil 0, rfl⟩
    have ht : th = true := by simpa using ht
    subst ht
    match subs, hth rfl with
    | x :: rest, _ =>
    have hnl : nl2 = false := by
      cases nl2
      · rfl
      · exact absurd (hn2 rfl) (by simp)
    obtain ⟨xc, xk, xn, xbs, xss, m1, exx, cpx, m2, csx, cpx2, t, hget, hd, hel⟩ := hs.cell (i := 0) (by simp)
    simp at hget
    subst hget
    simp only [Nat.zero_mul, List.drop_zero] at hd
    obtain ⟨f, hf, h41⟩ := sum41 hel 0
    have hf0 := hf
    obtain ⟨nlf, xs, cpf, rfl, hcf, hxf, hnf, hlf⟩ := hf
    have hv2 : ver2 (.mk xc xk xn xbs xss :: rest) true = if (verM (.mk xc xk xn xbs xss)).2.2 ≠ 0 then (0, [0, 0] ++ (verM (.mk xc xk xn xbs xss)).2.1, (verM (.mk xc xk xn xbs xss)).2.2) else ((verM (.mk xc xk xn xbs xss)).1, [], 0) := rfl
    rw [hv2]
    have hnl0 : (0 : Int) < ((El.mk xc xk xn xbs xss :: rest).length : Int) := by simp only [List.length_cons]; omega
    refine ⟨hnl, by omega, hnl0, xc, xk, xn, _, _, _, _, _, _, _, _, _, hd, _, _, _, _, _, h41, br_i (fun h1 => ?_) (fun h1 => ?_)⟩
    · have h1 : (explM (.mk xc xk xn xbs xss) 0).1 ≠ 0 := by simpa using h1
      have hv : verM (.mk xc xk xn xbs xss) = (0, (explM (.mk xc xk xn xbs xss) 0).2, (explM (.mk xc xk xn xbs xss) 0).1) := by unfold verM; rw [if_pos h1]
      rw [hv]
      simp only
      rw [if_pos h1]
      have hpl : (explM (.mk xc xk xn xbs xss) 0).2.length < 2 ^ 30 := by
        unfold explM; split <;> (try split) <;> (try split) <;> simp
      obtain ⟨b, hb, hsb⟩ := sum39 (p := [0, 0]) (b := .lsl false 0 [.int .i64 0, .int .i64 0] 2 (some 2)) hf0 hpl ⟨false, [], some 2, rfl, capOk_some, by simp, by simp⟩ (by simp)
      have hb0 := hb
      obtain ⟨q1, q2, q3, rfl, -⟩ := hb
      exact ⟨_, _, _, _, _, hsb, _, rfl, _, hb0, rfl⟩
    have h1 : (explM (.mk xc xk xn xbs xss) 0).1 = 0 := by simpa using h1
    obtain ⟨-, -, -, y, hy⟩ := explM_ok h1
    simp only [El.subs] at hy
    subst hy
    obtain ⟨w1, w2, w3, w4, w5, w6, q1, q2, q3, q4, q5, q6, q7, q8⟩ := hel.out
    simp only [List.cons.injEq, AV.lsl.injEq, and_true, true_and] at q1
    obtain ⟨⟨rfl, q9, rfl⟩, rfl, rfl, rfl⟩ := q1
    have hm2 : m2 = false := by
      cases m2
      · rfl
      · exact absurd (q7 rfl) (by simp)
    obtain ⟨yc, yk, yn, ybs, yss, o1, exy, cpy, o2, csy, cpy2, t2, hget2, hd2, hel2⟩ := q8.cell (i := 0) (by simp)
    simp at hget2
    subst hget2
    simp only [Nat.zero_mul, List.drop_zero] at hd2
    have hv : verM (.mk xc xk xn xbs [.mk yc yk yn ybs yss]) = if yc = 0 ∧ yk = false ∧ yn = 2 then (IntKind.i64.wrap ((getInt ybs).1 + 1), (underM 0 [] (verErr (getInt ybs))).1, (underM 0 [] (verErr (getInt ybs))).2) else (0, [0], 9) := by
      unfold verM; rw [if_neg (by simpa using h1)]; rfl
    have hbx : SI .u8 ybs (.lsl o1 0 (ybs.map (AV.int .u8) ++ exy) ybs.length cpy) := by
      obtain ⟨ux1, ux2, ux3, ux4, ux5, ux6, q1, q2, q3, q4, _⟩ := hel2.out
      simp only [List.cons.injEq, AV.lsl.injEq, and_true, true_and] at q1
      obtain ⟨⟨rfl, q5, rfl⟩, -⟩ := q1
      exact ⟨o1, exy, cpy, rfl, q2, q3, q4⟩
    have h60 := sum60 hbx
    refine ⟨hnl, by omega, hnl0, xc, xk, xn, _, _, _, _, _, _, _, _, _, hd, hm2, by omega, by simp, yc, yk, yn, _, _, _, _, _, _, _, _, _, hd2, br_i (fun h2 => ?_) (fun h2 => ⟨_, _, h60, ?_⟩)⟩
    · rw [if_neg (by rintro ⟨rfl, rfl, rfl⟩; simp at h2)] at hv
      rw [hv, if_pos (by simp)]
      exact ⟨_, rfl, _, ⟨false, [], some 3, rfl, capOk_some, by simp, by simp, by simp⟩, rfl⟩
    · rw [if_pos (by simpa using h2)] at hv
      rw [hv]
      generalize getInt ybs = gi
      obtain ⟨gn, ge⟩ := gi
      simp only
      have bad : ∀ er : Int, er ≠ 0 → verErr (gn, ge) = er → ∃ v, AOut.ret (.tup [.int .i64 0, .agg [.lsl false 0 [.int .i64 0, .int .i64 0, .int .i64 0] 3 (some 3), .int .i64 er]]) = .ret v ∧
          ∃ a, FA (if (underM 0 [] (verErr (gn, ge))).2 ≠ 0 then ((0 : Int), [0, 0] ++ (underM 0 [] (verErr (gn, ge))).1, (underM 0 [] (verErr (gn, ge))).2) else (IntKind.i64.wrap (gn + 1), [], 0)).2.1 (if (underM 0 [] (verErr (gn, ge))).2 ≠ 0 then ((0 : Int), [0, 0] ++ (underM 0 [] (verErr (gn, ge))).1, (underM 0 [] (verErr (gn, ge))).2) else (IntKind.i64.wrap (gn + 1), [], 0)).2.2 false a ∧
            v = .tup [.int .i64 (if (underM 0 [] (verErr (gn, ge))).2 ≠ 0 then ((0 : Int), [0, 0] ++ (underM 0 [] (verErr (gn, ge))).1, (underM 0 [] (verErr (gn, ge))).2) else (IntKind.i64.wrap (gn + 1), [], 0)).1, a] := by
        intro er h0 he
        have hu : underM 0 [] er = ([0], er) := by unfold underM; rw [if_neg h0]
        rw [he, hu, if_pos (by exact h0)]
        exact ⟨_, rfl, _, ⟨false, [], some 3, rfl, capOk_some, by simp, by simp, by simp⟩, rfl⟩
      have good : verErr (gn, ge) = 0 → ∃ v, AOut.ret (.tup [.int .i64 (IntKind.i64.wrap (gn + 1)), .agg [nilS, .int .i64 0]]) = .ret v ∧
          ∃ a, FA (if (underM 0 [] (verErr (gn, ge))).2 ≠ 0 then ((0 : Int), [0, 0] ++ (underM 0 [] (verErr (gn, ge))).1, (underM 0 [] (verErr (gn, ge))).2) else (IntKind.i64.wrap (gn + 1), [], 0)).2.1 (if (underM 0 [] (verErr (gn, ge))).2 ≠ 0 then ((0 : Int), [0, 0] ++ (underM 0 [] (verErr (gn, ge))).1, (underM 0 [] (verErr (gn, ge))).2) else (IntKind.i64.wrap (gn + 1), [], 0)).2.2 false a ∧
            v = .tup [.int .i64 (if (underM 0 [] (verErr (gn, ge))).2 ≠ 0 then ((0 : Int), [0, 0] ++ (underM 0 [] (verErr (gn, ge))).1, (underM 0 [] (verErr (gn, ge))).2) else (IntKind.i64.wrap (gn + 1), [], 0)).1, a] := by
        intro he
        have hu : underM 0 [] 0 = ([], 0) := by unfold underM; rw [if_pos rfl]
        rw [he, hu, if_neg (by simp)]
        exact ⟨_, rfl, _, hnil 0, rfl⟩
      refine br_i (fun h3 => ?_) (fun h3 => ?_)
      · have h3 : ge = 0 := by simpa using h3
        subst h3
        refine br_i (fun h4 => bad 11 (by omega) ?_) (fun h4 => br_t (by simp) ?_)
        · have : gn = 0 := by simpa using h4
          simp [verErr, this]
        · have h4 : gn ≠ 0 := by simpa using h4
          refine br_i (fun h5 => br_i (fun h6 => bad 16 (by omega) ?_) (fun h6 => br_f (by simp) (good ?_))) (fun h5 => br_f (by simp) (good ?_))
          · have h5 : gn ≠ 1 := by simpa using h5
            have h6 : gn ≠ 2 := by simpa using h6
            simp [verErr, h4, h5, h6]
          · have h6 : gn = 2 := by simpa using h6
            simp [verErr, h6]
          · have h5 : gn = 1 := by simpa using h5
            simp [verErr, h5]
      · have h3 : ge ≠ 0 := by simpa using h3
        exact br_f (by simpa using h3) (br_t (by simpa using h3) (bad ge h3 (by simp [verErr, h3])))
  obtain ⟨v, ⟨a, ha, rfl⟩, hsm⟩ := hend
  exact ⟨a, ha, hsm⟩

end Go.Vid
