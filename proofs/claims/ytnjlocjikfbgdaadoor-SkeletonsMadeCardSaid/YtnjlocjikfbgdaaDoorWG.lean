/-
The statements' words; At; Element: summaries.
-/
import Derived.Test.YtnjlocjikfbgdaaDoorWF
set_option linter.all false
namespace Go.Vid
open Go.Proofs
set_option maxRecDepth 100000
set_option linter.unusedVariables false
section
open AExit AOut AV IntKind
abbrev tb_r22 : List (FuncId × Sc) := [(22, { ops := [(6, [(2, Kd.w), (6, Kd.w)])] })]
theorem r22 (i : Int) (nla nlb : Bool) (lena capa lenb : Nat) (csa csb : List AV) (cpb : Option Nat) (K : AExit → List (Nat × AV) → St → Prop) : (roundT Tryd.prog env tb_r22 22 (bodyL Tryd.f22 0) 0 33 [0, 1, 4, 5] [4] [(0, lsl nla 0 csa lena (some capa)), (1, lsl nlb 0 csb lenb cpb), (4, int i64 0), (5, int i64 i)] ⟨[], 0⟩ K) =
    (br (decide (i < (↑lena : Int))) (nla = false ∧ (0 : Int) ≤ i ∧ i < (↑lena : Int) ∧ ∃ z1 cs2, List.drop (Int.toNat i * 1) csa = int i64 z1 :: cs2 ∧ nlb = false ∧ (0 : Int) ≤ i ∧ i < (↑lenb : Int) ∧ ∃ z3 cs4, List.drop (Int.toNat i * 1) csb = int i64 z3 :: cs4 ∧ br (z1 != z3) (K AExit.ret [(4, int i64 0)] ⟨[], 0⟩) (K normal [(0, lsl nla 0 csa lena (some capa)), (1, lsl nlb 0 csb lenb cpb), (4, int i64 0), (5, int i64 (wrap i64 (i + (1 : Int))))] ⟨[], 0⟩)) (K (exit 0) [(4, int i64 0)] ⟨[], 0⟩)) := by kernel_rfl
theorem vc22 (nla nlb : Bool) (lena capa lenb : Nat) (csa csb : List AV) (cpb : Option Nat) (K : AOut → Prop) : (dataT Tryd.prog env [(22, { ops := [(1, [(5, Kd.b)])], loops := [(0, LoopS.inv [0, 1, 4, 5] fun _ σ => Sh.or (Sh.one (exit 0, [(4, int i64 0)], ⟨[], 0⟩)) (Sh.one (AExit.ret, [(4, int i64 0)], ⟨[], 0⟩)))] })] 22 [lsl nla 0 csa lena (some capa), lsl nlb 0 csb lenb cpb] K) =
    (br ((↑lena : Int) != (↑lenb : Int)) (K (AOut.ret (int i64 0))) (br ((↑capa : Int) != (↑lena : Int)) (K (AOut.ret (int i64 0))) (Cd 0 (Code.loop (bodyL Tryd.f22 0)) (frOf 33 [(0, lsl nla 0 csa lena (some capa)), (1, lsl nlb 0 csb lenb cpb), (4, int i64 0), (5, int i64 0)]) ⟨[], 0⟩ (exit 0) (frOf 33 [(4, int i64 0)]) ⟨[], 0⟩ ∧ K (AOut.ret (int i64 1)) ∨ Cd 0 (Code.loop (bodyL Tryd.f22 0)) (frOf 33 [(0, lsl nla 0 csa lena (some capa)), (1, lsl nlb 0 csb lenb cpb), (4, int i64 0), (5, int i64 0)]) ⟨[], 0⟩ AExit.ret (frOf 33 [(4, int i64 0)]) ⟨[], 0⟩ ∧ K (AOut.ret (int i64 0))))) := by kernel_rfl
theorem vc21 (fe ge : Int) (nlf nlg : Bool) (lenf capf leng : Nat) (csf csg : List AV) (cpg : Option Nat) (K : AOut → Prop) : (dataT Tryd.prog env [] 21 [agg [lsl nlf 0 csf lenf (some capf), int i64 fe], agg [lsl nlg 0 csg leng cpg, int i64 ge]] K) =
    (br (fe != ge) (K (AOut.ret (int i64 0))) (∃ z1, Sm 22 [lsl nlf 0 csf lenf (some capf), lsl nlg 0 csg leng cpg] ((int i64 z1)) ∧ K (AOut.ret (int i64 z1)))) := by kernel_rfl
abbrev tb_r23 : List (FuncId × Sc) := [(23, { ops := [(14, [(1, Kd.w), (2, Kd.w)])], lax := [34] })]
theorem r23 (p n k : Int) (cs : List AV) (K : AExit → List (Nat × AV) → St → Prop) : (roundT Tryd.prog env tb_r23 23 (bodyL Tryd.f23 1) 0 34 [0, 3, 5, 6] [5] [(0, int u8 p), (3, ref 0 0), (5, int i64 n), (6, int i64 k)] ⟨[some (AObj.cells cs 34 false)], 0⟩ K) =
    (br (decide (k < wrap i64 p)) ((0 : Int) ≤ k ∧ k < (13 : Int) ∧ ∃ b1 cs2, List.drop (0 + Int.toNat k * 1) cs = AV.bool b1 :: cs2 ∧ br b1 (tagLeL 0 cs = true ∧ K normal [(0, int u8 p), (3, ref 0 0), (5, int i64 (wrap i64 (n + (1 : Int)))), (6, int i64 (wrap i64 (k + (1 : Int))))] ⟨[some (AObj.cells cs 34 false)], 0⟩) (tagLeL 0 cs = true ∧ K normal [(0, int u8 p), (3, ref 0 0), (5, int i64 n), (6, int i64 (wrap i64 (k + (1 : Int))))] ⟨[some (AObj.cells cs 34 false)], 0⟩)) (K (exit 1) [(5, int i64 n)] ⟨[], 0⟩)) := by kernel_rfl
theorem vc23 (p : Int) (h0 h1 h2 h3 h4 h5 h6 h7 h8 h9 ha hb hc : Bool) (K : AOut → Prop) : (dataT Tryd.prog env [(23, { ops := [(8, [(1, Kd.w), (2, Kd.w)])], loops := [(1, LoopS.inv [0, 3, 5, 6] fun _ σ => Sh.int fun n => Sh.one (exit 1, [(5, int i64 n)], ⟨[], 0⟩))] })] 23 [int u8 p, agg [AV.bool h0, AV.bool h1, AV.bool h2, AV.bool h3, AV.bool h4, AV.bool h5, AV.bool h6, AV.bool h7, AV.bool h8, AV.bool h9, AV.bool ha, AV.bool hb, AV.bool hc]] K) =
    (br (p == (0 : Int)) (K (AOut.ret (lsl false 0 [int i64 0] 1 (some 1)))) (br (p == (11 : Int)) (K (AOut.ret (lsl false 0 [int i64 1] 1 (some 1)))) (br (p == (12 : Int)) (K (AOut.ret (lsl false 0 [int i64 2] 1 (some 1)))) ((0 : Int) ≤ p ∧ p < (13 : Int) ∧ ∃ b1 cs2, List.drop (0 + Int.toNat p * 1) [AV.bool h0, AV.bool h1, AV.bool h2, AV.bool h3, AV.bool h4, AV.bool h5, AV.bool h6, AV.bool h7, AV.bool h8, AV.bool h9, AV.bool ha, AV.bool hb, AV.bool hc] = AV.bool b1 :: cs2 ∧ br (!b1) (K (AOut.ret (nilS))) (∃ z3, Cd 0 (Code.loop (bodyL Tryd.f23 1)) (frOf 34 [(0, int u8 p), (3, ref 0 0), (5, int i64 0), (6, int i64 1)]) ⟨[some (AObj.cells [AV.bool h0, AV.bool h1, AV.bool h2, AV.bool h3, AV.bool h4, AV.bool h5, AV.bool h6, AV.bool h7, AV.bool h8, AV.bool h9, AV.bool ha, AV.bool hb, AV.bool hc] 34 false)], 0⟩ (exit 1) (frOf 34 [(5, int i64 z3)]) ⟨[], 0⟩ ∧ K (AOut.ret (lsl false 0 [int i64 0, int i64 z3] 2 (some 2)))))))) := by kernel_rfl
theorem vc63 (nls : Bool) (lens : Nat) (css : List AV) (cps : Option Nat) (K : AOut → Prop) : (dataT Tryd.prog env [(63, { ops := [(1, [(5, Kd.w)])] })] 63 [lsl nls 0 css lens cps] K) =
    ((0 : Int) ≤ (↑lens : Int) ∧ (↑lens : Int) ≤ (↑(Option.getD cps lens) : Int) ∧ (0 : Int) ≤ (↑lens : Int) ∧ (↑lens : Int) ≤ (↑lens : Int) ∧ K (AOut.ret (lsl nls 0 (if lens = 0 then [] else css) lens (some lens)))) := by kernel_rfl
theorem vc64 (nls : Bool) (lens : Nat) (css : List AV) (cps : Option Nat) (K : AOut → Prop) : (dataT Tryd.prog env [(64, { ops := [(1, [(1, Kd.w)]), (3, [(2, Kd.w)])], lax := [5] })] 64 [lsl nls 0 css lens cps] K) =
    (br nls (K (AOut.ret (nilS))) (lens * 1 ≤ List.length css ∧ br (Nat.beq lens 0) (true = true ∧ K (AOut.ret (lsl false 0 [] 0 (some 0)))) (br (Nat.ble (0 + lens) 0) (0 + (0 + lens) * 1 ≤ 0 ∧ tagLeL 0 (putL [] 0 (List.take (lens * 1) css)) = true ∧ K (AOut.ret (lsl false 0 (List.drop 0 (putL [] 0 (List.take (lens * 1) css))) (0 + lens) (some 0)))) (0 ≤ 0 ∧ (0 + lens) * 1 ≤ 70368744177664 ∧ 0 + lens ≤ 70368744177664 ∧ tagLeL 0 ([] ++ List.take (lens * 1) css) = true ∧ K (AOut.ret (lsl false 0 (List.drop 0 ([] ++ List.take (lens * 1) css)) (0 + lens) none)))))) := by kernel_rfl
abbrev tb_r31 : List (FuncId × Sc) := [(31, { ops := [(4, [(0, Kd.w)])] })]
theorem r31 (i ec en zc zn : Int) (nls ek nle1 nle2 zk nlz1 nlz2 : Bool) (lens lene1 lene2 lenz1 lenz2 : Nat) (css cse1 cse2 csz1 csz2 : List AV) (cps cpe1 cpe2 cpz1 cpz2 : Option Nat) (K : AExit → List (Nat × AV) → St → Prop) : (roundT Tryd.prog env tb_r31 31 (bodyL Tryd.f31 0) 0 27 [2, 4, 6, 9, 10, 11] [2, 4, 5] [(2, ref 0 0), (4, ref 1 0), (6, AV.bool true), (9, lsl nls 0 css lens cps), (10, int i64 (↑lens : Int)), (11, int i64 i)] ⟨[some (AObj.cells [int u8 ec, AV.bool ek, int u32 en, lsl nle1 0 cse1 lene1 cpe1, lsl nle2 0 cse2 lene2 cpe2] 32 false), some (AObj.cells [int u8 zc, AV.bool zk, int u32 zn, lsl nlz1 0 csz1 lenz1 cpz1, lsl nlz2 0 csz2 lenz2 cpz2] 32 false)], 0⟩ K) =
    (br (decide (i < (↑lens : Int))) (nls = false ∧ (0 : Int) ≤ i ∧ i < (↑lens : Int) ∧ ∃ z1 cs2, List.drop (Int.toNat i * 1) css = int i64 z1 :: cs2 ∧ ∃ z3 b4 z5 b6 cs7 n8 cp9 b10 cs11 n12 cp13 b14, Sm 48 [agg [int u8 ec, AV.bool ek, int u32 en, lsl nle1 0 cse1 lene1 cpe1, lsl nle2 0 cse2 lene2 cpe2], int i64 z1] ((tup [agg [int u8 z3, AV.bool b4, int u32 z5, lsl b6 0 cs7 n8 cp9, lsl b10 0 cs11 n12 cp13], AV.bool b14])) ∧ br (!b14) (K AExit.ret [(2, ref 0 0), (4, ref 1 0), (5, int i64 19)] ⟨[some (AObj.cells [int u8 z3, AV.bool b4, int u32 z5, lsl b6 0 cs7 n8 cp9, lsl b10 0 cs11 n12 cp13] 32 false), some (AObj.cells [int u8 0, AV.bool false, int u32 0, nilS, nilS] 32 false)], 0⟩) (K normal [(2, ref 0 0), (4, ref 1 0), (6, AV.bool b14), (9, lsl nls 0 css lens cps), (10, int i64 (↑lens : Int)), (11, int i64 (wrap i64 (i + (1 : Int))))] ⟨[some (AObj.cells [int u8 z3, AV.bool b4, int u32 z5, lsl b6 0 cs7 n8 cp9, lsl b10 0 cs11 n12 cp13] 32 false), some (AObj.cells [int u8 zc, AV.bool zk, int u32 zn, lsl nlz1 0 csz1 lenz1 cpz1, lsl nlz2 0 csz2 lenz2 cpz2] 32 false)], 0⟩)) (K (exit 0) [(2, ref 0 0), (4, ref 1 0), (5, any)] ⟨[some (AObj.cells [int u8 ec, AV.bool ek, int u32 en, lsl nle1 0 cse1 lene1 cpe1, lsl nle2 0 cse2 lene2 cpe2] 32 false), some (AObj.cells [int u8 zc, AV.bool zk, int u32 zn, lsl nlz1 0 csz1 lenz1 cpz1, lsl nlz2 0 csz2 lenz2 cpz2] 32 false)], 0⟩)) := by kernel_rfl
theorem vc31 (ac an : Int) (ak nla1 nla2 nls : Bool) (lena1 lena2 lens : Nat) (csa1 csa2 css : List AV) (cpa1 cpa2 cps : Option Nat) (K : AOut → Prop) : (dataT Tryd.prog env [(31, { loops := [(0, LoopS.inv [2, 4, 6, 9, 10, 11] fun _ σ => Sh.int fun c => Sh.bool fun k => Sh.int fun n => Sh.bool fun nl1 => Sh.cells fun cs1 => Sh.nat fun l1 => Sh.cap fun cp1 => Sh.bool fun nl2 => Sh.cells fun cs2 => Sh.nat fun l2 => Sh.cap fun cp2 => Sh.or (Sh.one (exit 0, [(2, ref 0 0), (4, ref 1 0), (5, any)], ⟨[some (AObj.cells [int u8 c, AV.bool k, int u32 n, lsl nl1 0 cs1 l1 cp1, lsl nl2 0 cs2 l2 cp2] 32 false), List.getD (St.objs σ) 1 none], 0⟩)) (Sh.one (AExit.ret, [(2, ref 0 0), (4, ref 1 0), (5, int i64 19)], ⟨[some (AObj.cells [int u8 c, AV.bool k, int u32 n, lsl nl1 0 cs1 l1 cp1, lsl nl2 0 cs2 l2 cp2] 32 false), some (AObj.cells [int u8 0, AV.bool false, int u32 0, nilS, nilS] 32 false)], 0⟩)))] })] 31 [agg [int u8 ac, AV.bool ak, int u32 an, lsl nla1 0 csa1 lena1 cpa1, lsl nla2 0 csa2 lena2 cpa2], lsl nls 0 css lens cps] K) =
    (∃ z1 b2 z3 b4 cs5 n6 cp7 b8 cs9 n10 cp11, (Cd 0 (Code.loop (bodyL Tryd.f31 0)) (frOf 27 [(2, ref 0 0), (4, ref 1 0), (6, AV.bool true), (9, lsl nls 0 css lens cps), (10, int i64 (↑lens : Int)), (11, int i64 0)]) ⟨[some (AObj.cells [int u8 ac, AV.bool ak, int u32 an, lsl nla1 0 csa1 lena1 cpa1, lsl nla2 0 csa2 lena2 cpa2] 32 false), some (AObj.cells [int u8 0, AV.bool false, int u32 0, nilS, nilS] 32 false)], 0⟩ (exit 0) (frOf 27 [(2, ref 0 0), (4, ref 1 0), (5, any)]) ⟨[some (AObj.cells [int u8 z1, AV.bool b2, int u32 z3, lsl b4 0 cs5 n6 cp7, lsl b8 0 cs9 n10 cp11] 32 false), some (AObj.cells [int u8 0, AV.bool false, int u32 0, nilS, nilS] 32 false)], 0⟩ ∧ ∃ z12 b13 z14 b15 cs16 n17 cp18 b19 cs20 n21 cp22, Sm 49 [agg [int u8 z1, AV.bool b2, int u32 z3, lsl b4 0 cs5 n6 cp7, lsl b8 0 cs9 n10 cp11]] ((agg [int u8 z12, AV.bool b13, int u32 z14, lsl b15 0 cs16 n17 cp18, lsl b19 0 cs20 n21 cp22])) ∧ K (AOut.ret (tup [agg [int u8 z12, AV.bool b13, int u32 z14, lsl b15 0 cs16 n17 cp18, lsl b19 0 cs20 n21 cp22], int i64 0]))) ∨ Cd 0 (Code.loop (bodyL Tryd.f31 0)) (frOf 27 [(2, ref 0 0), (4, ref 1 0), (6, AV.bool true), (9, lsl nls 0 css lens cps), (10, int i64 (↑lens : Int)), (11, int i64 0)]) ⟨[some (AObj.cells [int u8 ac, AV.bool ak, int u32 an, lsl nla1 0 csa1 lena1 cpa1, lsl nla2 0 csa2 lena2 cpa2] 32 false), some (AObj.cells [int u8 0, AV.bool false, int u32 0, nilS, nilS] 32 false)], 0⟩ AExit.ret (frOf 27 [(2, ref 0 0), (4, ref 1 0), (5, int i64 19)]) ⟨[some (AObj.cells [int u8 z1, AV.bool b2, int u32 z3, lsl b4 0 cs5 n6 cp7, lsl b8 0 cs9 n10 cp11] 32 false), some (AObj.cells [int u8 0, AV.bool false, int u32 0, nilS, nilS] 32 false)], 0⟩ ∧ K (AOut.ret (tup [agg [int u8 0, AV.bool false, int u32 0, nilS, nilS], int i64 19]))) := by kernel_rfl
abbrev tb_r49 : List (FuncId × Sc) := [(49, { ops := [(5, [(1, Kd.w)]), (6, [(4, Kd.w), (5, Kd.w)])], lax := [32] })]
theorem r49 (i ec en zc zn : Int) (nls ek nle1 nle2 zk nlz1 nlz2 : Bool) (m mc lens lene1 lene2 lenz1 lenz2 : Nat) (css cse1 cse2 csz1 csz2 cso : List AV) (cps cpe1 cpe2 cpz1 cpz2 : Option Nat) (K : AExit → List (Nat × AV) → St → Prop) : (roundT Tryd.prog env tb_r49 49 (bodyL Tryd.f49 0) 0 32 [1, 2, 3, 16, 17, 18] [1, 2, 3] [(1, ref 0 0), (2, ref 1 0), (3, rsl 2 0 m (some mc)), (16, lsl nls 0 css lens cps), (17, int i64 (↑lens : Int)), (18, int i64 i)] ⟨[some (AObj.cells [int u8 ec, AV.bool ek, int u32 en, lsl nle1 0 cse1 lene1 cpe1, lsl nle2 0 cse2 lene2 cpe2] 32 false), some (AObj.cells [int u8 zc, AV.bool zk, int u32 zn, lsl nlz1 0 csz1 lenz1 cpz1, lsl nlz2 0 csz2 lenz2 cpz2] 32 false), some (AObj.cells cso 32 false)], 0⟩ K) =
    (br (decide (i < (↑lens : Int))) (nls = false ∧ (0 : Int) ≤ i ∧ i < (↑lens : Int) ∧ ∃ z1 b2 z3 b4 cs5 n6 cp7 b8 cs9 n10 cp11 cs12, List.drop (Int.toNat i * 5) css = int u8 z1 :: AV.bool b2 :: int u32 z3 :: lsl b4 0 cs5 n6 cp7 :: lsl b8 0 cs9 n10 cp11 :: cs12 ∧ ∃ z13 b14 z15 b16 cs17 n18 cp19 b20 cs21 n22 cp23, Sm 49 [agg [int u8 z1, AV.bool b2, int u32 z3, lsl b4 0 cs5 n6 cp7, lsl b8 0 cs9 n10 cp11]] ((agg [int u8 z13, AV.bool b14, int u32 z15, lsl b16 0 cs17 n18 cp19, lsl b20 0 cs21 n22 cp23])) ∧ (0 : Int) ≤ i ∧ i < (↑m : Int) ∧ 0 + Int.toNat i * 5 + 5 ≤ List.length cso ∧ true = true ∧ true = true ∧ tagLeL 0 (putL cso (0 + Int.toNat i * 5) [int u8 z13, AV.bool b14, int u32 z15, lsl b16 0 cs17 n18 cp19, lsl b20 0 cs21 n22 cp23]) = true ∧ K normal [(1, ref 0 0), (2, ref 1 0), (3, rsl 2 0 m (some mc)), (16, lsl nls 0 css lens cps), (17, int i64 (↑lens : Int)), (18, int i64 (wrap i64 (i + (1 : Int))))] ⟨[some (AObj.cells [int u8 ec, AV.bool ek, int u32 en, lsl nle1 0 cse1 lene1 cpe1, lsl nle2 0 cse2 lene2 cpe2] 32 false), some (AObj.cells [int u8 zc, AV.bool zk, int u32 zn, lsl nlz1 0 csz1 lenz1 cpz1, lsl nlz2 0 csz2 lenz2 cpz2] 32 false), some (AObj.cells (putL cso (0 + Int.toNat i * 5) [int u8 z13, AV.bool b14, int u32 z15, lsl b16 0 cs17 n18 cp19, lsl b20 0 cs21 n22 cp23]) 32 false)], 0⟩) (true = true ∧ true = true ∧ tagLeL 0 cso = true ∧ K (exit 0) [(1, ref 0 0), (2, ref 1 0), (3, rsl 2 0 m (some mc))] ⟨[some (AObj.cells [int u8 ec, AV.bool ek, int u32 en, lsl nle1 0 cse1 lene1 cpe1, lsl nle2 0 cse2 lene2 cpe2] 32 false), some (AObj.cells [int u8 zc, AV.bool zk, int u32 zn, lsl nlz1 0 csz1 lenz1 cpz1, lsl nlz2 0 csz2 lenz2 cpz2] 32 false), some (AObj.cells cso 32 false)], 0⟩)) := by kernel_rfl
theorem vc49 (ec en : Int) (ek nle1 nle2 : Bool) (lene1 lene2 : Nat) (cse1 cse2 : List AV) (cpe1 cpe2 : Option Nat) (K : AOut → Prop) : (dataT Tryd.prog env [(49, { ops := [(2, [(3, Kd.w)])], loops := [(0, LoopS.inv [1, 2, 3, 16, 17, 18] fun _ σ => Sh.nat fun m => Sh.nat fun mc => Sh.cells fun cs => Sh.one (exit 0, [(1, ref 0 0), (2, ref 1 0), (3, rsl 2 0 m (some mc))], ⟨[List.getD (St.objs σ) 0 none, List.getD (St.objs σ) 1 none, some (AObj.cells cs 32 false)], 0⟩))], lax := [32] })] 49 [agg [int u8 ec, AV.bool ek, int u32 en, lsl nle1 0 cse1 lene1 cpe1, lsl nle2 0 cse2 lene2 cpe2]] K) =
    (∃ b1 cs2 n3 cp4, Sm 64 [lsl nle1 0 cse1 lene1 cpe1] ((lsl b1 0 cs2 n3 cp4)) ∧ ∃ b5 cs6 n7 cp8, Sm 63 [lsl b1 0 cs2 n3 cp4] ((lsl b5 0 cs6 n7 cp8)) ∧ (0 : Int) ≤ (↑lene2 : Int) ∧ (↑lene2 : Int) ≤ (↑lene2 : Int) ∧ (↑lene2 : Int) ≤ (70368744177664 : Int) ∧ lene2 * 56 ≤ 70368744177664 ∧ true = true ∧ true = true ∧ tagLeL 0 (madeRow [int u8 0, AV.bool false, int u32 0, nilS, nilS] (lene2 * 5)) = true ∧ ∃ n9 n10 cs11, Cd 0 (Code.loop (bodyL Tryd.f49 0)) (frOf 32 [(1, ref 0 0), (2, ref 1 0), (3, rsl 2 0 lene2 (some lene2)), (16, lsl nle2 0 cse2 lene2 cpe2), (17, int i64 (↑lene2 : Int)), (18, int i64 0)]) ⟨[some (AObj.cells [int u8 ec, AV.bool ek, int u32 en, lsl b5 0 cs6 n7 cp8, lsl nle2 0 cse2 lene2 cpe2] 32 false), some (AObj.cells [int u8 0, AV.bool false, int u32 0, nilS, nilS] 32 false), some (AObj.cells (madeRow [int u8 0, AV.bool false, int u32 0, nilS, nilS] (lene2 * 5)) 32 false)], 0⟩ (exit 0) (frOf 32 [(1, ref 0 0), (2, ref 1 0), (3, rsl 2 0 n9 (some n10))]) ⟨[some (AObj.cells [int u8 ec, AV.bool ek, int u32 en, lsl b5 0 cs6 n7 cp8, lsl nle2 0 cse2 lene2 cpe2] 32 false), some (AObj.cells [int u8 0, AV.bool false, int u32 0, nilS, nilS] 32 false), some (AObj.cells cs11 32 false)], 0⟩ ∧ tagLeL 0 cs11 = true ∧ K (AOut.ret (agg [int u8 ec, AV.bool ek, int u32 en, lsl b5 0 cs6 n7 cp8, lsl false 0 cs11 n9 (some n10)]))) := by kernel_rfl
theorem vc24 (ec en p : Int) (ek nle1 nle2 : Bool) (lene1 lene2 : Nat) (cse1 cse2 : List AV) (cpe1 cpe2 : Option Nat) (K : AOut → Prop) : (dataT Tryd.prog env [(24, { ops := [(2, [(3, Kd.b), (7, Kd.b), (10, Kd.w), (11, Kd.w)]), (4, [(3, Kd.w), (4, Kd.w)])] })] 24 [agg [int u8 ec, AV.bool ek, int u32 en, lsl nle1 0 cse1 lene1 cpe1, lsl nle2 0 cse2 lene2 cpe2], int u8 p] K) =
    (∃ z1 b2 cs3 n4 cp5 b6 cs7 n8 cp9 b10 cs11 n12 cp13 b14 cs15 n16 cp17 b18 cs19 n20 cp21 b22 cs23 n24 cp25 b26 cs27 n28 cp29 b30 cs31 n32 cp33 b34 cs35 n36 cp37 b38 cs39 n40 cp41 b42 cs43 n44 cp45 b46 cs47 n48 cp49 b50 cs51 n52 cp53 b54 cs55 n56 cp57 z58, Sm 20 [agg [int u8 ec, AV.bool ek, int u32 en, lsl nle1 0 cse1 lene1 cpe1, lsl nle2 0 cse2 lene2 cpe2]] ((tup [agg [int i64 z1, lsl b2 0 cs3 n4 cp5, lsl b6 0 cs7 n8 cp9, lsl b10 0 cs11 n12 cp13, lsl b14 0 cs15 n16 cp17, lsl b18 0 cs19 n20 cp21, lsl b22 0 cs23 n24 cp25, lsl b26 0 cs27 n28 cp29, lsl b30 0 cs31 n32 cp33, lsl b34 0 cs35 n36 cp37, lsl b38 0 cs39 n40 cp41, lsl b42 0 cs43 n44 cp45, lsl b46 0 cs47 n48 cp49, lsl b50 0 cs51 n52 cp53], agg [lsl b54 0 cs55 n56 cp57, int i64 z58]])) ∧ br (z58 != (0 : Int)) (K (AOut.ret (tup [agg [int u8 0, AV.bool false, int u32 0, nilS, nilS], AV.bool false]))) (br (decide (p ≥ (13 : Int))) (K (AOut.ret (tup [agg [int u8 0, AV.bool false, int u32 0, nilS, nilS], AV.bool false]))) ((0 : Int) ≤ p ∧ p < (13 : Int) ∧ ∃ b59 cs60 n61 cp62 cs63, List.drop (1 + Int.toNat p * 1) [int i64 z1, lsl b2 0 cs3 n4 cp5, lsl b6 0 cs7 n8 cp9, lsl b10 0 cs11 n12 cp13, lsl b14 0 cs15 n16 cp17, lsl b18 0 cs19 n20 cp21, lsl b22 0 cs23 n24 cp25, lsl b26 0 cs27 n28 cp29, lsl b30 0 cs31 n32 cp33, lsl b34 0 cs35 n36 cp37, lsl b38 0 cs39 n40 cp41, lsl b42 0 cs43 n44 cp45, lsl b46 0 cs47 n48 cp49, lsl b50 0 cs51 n52 cp53] = lsl b59 0 cs60 n61 cp62 :: cs63 ∧ br ((↑n61 : Int) == (0 : Int)) (K (AOut.ret (tup [agg [int u8 0, AV.bool false, int u32 0, nilS, nilS], AV.bool false]))) ((0 : Int) ≤ p ∧ p < (13 : Int) ∧ ∃ b64 cs65 n66 cp67 cs68, List.drop (1 + Int.toNat p * 1) [int i64 z1, lsl b2 0 cs3 n4 cp5, lsl b6 0 cs7 n8 cp9, lsl b10 0 cs11 n12 cp13, lsl b14 0 cs15 n16 cp17, lsl b18 0 cs19 n20 cp21, lsl b22 0 cs23 n24 cp25, lsl b26 0 cs27 n28 cp29, lsl b30 0 cs31 n32 cp33, lsl b34 0 cs35 n36 cp37, lsl b38 0 cs39 n40 cp41, lsl b42 0 cs43 n44 cp45, lsl b46 0 cs47 n48 cp49, lsl b50 0 cs51 n52 cp53] = lsl b64 0 cs65 n66 cp67 :: cs68 ∧ ∃ z69 b70 z71 b72 cs73 n74 cp75 b76 cs77 n78 cp79 z80, Sm 31 [agg [int u8 ec, AV.bool ek, int u32 en, lsl nle1 0 cse1 lene1 cpe1, lsl nle2 0 cse2 lene2 cpe2], lsl b64 0 cs65 n66 cp67] ((tup [agg [int u8 z69, AV.bool b70, int u32 z71, lsl b72 0 cs73 n74 cp75, lsl b76 0 cs77 n78 cp79], int i64 z80])) ∧ K (AOut.ret (tup [agg [int u8 z69, AV.bool b70, int u32 z71, lsl b72 0 cs73 n74 cp75, lsl b76 0 cs77 n78 cp79], AV.bool (z80 == (0 : Int))])))))) := by kernel_rfl
end

/-! the statements' words: ints, fault, Path; fields.At; skeletons.Element -/

theorem loop22 {l m : List Int} {nla nlb : Bool} {exa exb : List AV} {cpb : Option Nat} (hn : nla = true → l = []) (hnb : nlb = true → m = []) (hlm : l.length = m.length) (hl : l.length < 2 ^ 48) :
    ∀ (x : Nat) (kvs : List (Nat × AV)) (σ : St), (x ≤ l.length ∧ l.take x = m.take x ∧ kvs = [(0, .lsl nla 0 (l.map (AV.int .i64) ++ exa) l.length (some l.length)), (1, .lsl nlb 0 (m.map (AV.int .i64) ++ exb) m.length cpb), (4, .int .i64 0), (5, .int .i64 x)] ∧ σ = ⟨[], 0⟩) →
      ∃ ae kvs' σ', ((ae = .exit 0 ∧ l = m ∨ ae = .ret ∧ l ≠ m) ∧ kvs' = [(4, .int .i64 0)] ∧ σ' = ⟨[], 0⟩) ∧ Cd 0 (.loop (bodyL Tryd.f22 0)) (frOf 33 kvs) σ ae (frOf 33 kvs') σ' := by
  refine loop_by (tb := tb_r22) (f := 22) (c := bodyL Tryd.f22 0) (k := 0) (N := 33) (keepN := [0, 1, 4, 5]) (keepX := [4]) env_ok _ _ (fun x => l.length - x) ?_
  rintro i kvs σ ⟨hi, ht, rfl, rfl⟩
  rw [r22]
  refine br_i (fun hlt => ?_) (fun hge => ?_)
  · have hlt : i < l.length := by have := of_decide_eq_true hlt; omega
    have hltm : i < m.length := by omega
    have hnl : nla = false := by
      cases nla
      · rfl
      · rw [hn rfl] at hlt; simp at hlt
    have hnm : nlb = false := by
      cases nlb
      · rfl
      · rw [hnb rfl] at hltm; simp at hltm
    have hw : IntKind.i64.wrap ((i : Int) + 1) = ((i + 1 : Nat) : Int) := by rw [wrap_small (by omega) (by omega)]; simp
    refine ⟨hnl, by omega, by omega, _, _, by rw [Int.toNat_natCast, Nat.mul_one]; exact SI.cells_at hlt, hnm, by omega, by omega, _, _, by rw [Int.toNat_natCast, Nat.mul_one]; exact SI.cells_at hltm, br_i (fun hz => ?_) (fun hz => ?_)⟩
    · refine ⟨.inr ⟨rfl, fun h => ?_⟩, rfl, rfl⟩
      subst h
      simp at hz
    · have hz : l[i] = m[i] := by simpa using hz
      refine ⟨i + 1, by omega, ⟨by omega, ?_, by rw [hw], rfl⟩, fun ae kvs σ h => h⟩
      rw [List.take_succ_eq_append_getElem hlt, List.take_succ_eq_append_getElem hltm, ht, hz]
  · have hge : i = l.length := by have := of_decide_eq_false hge; omega
    subst hge
    refine ⟨.inl ⟨rfl, ?_⟩, rfl, rfl⟩
    rw [List.take_length, hlm, List.take_length] at ht
    exact ht

theorem sum22 {l m : List Int} {a b : AV} (ha : SX .i64 l a) (hb : SI .i64 m b) : Sm 22 [a, b] (.int .i64 (if l = m then 1 else 0)) := by
  obtain ⟨nla, exa, rfl, hl, hn⟩ := ha
  obtain ⟨nlb, exb, cpb, rfl, hc, hm, hnb⟩ := hb
  refine sum_vc (vc22 ..) ?_
  refine br_i (fun h1 => ?_) (fun h1 => br_f (by simp) ?_)
  · have h1 : l.length ≠ m.length := by intro h; rw [h] at h1; simp at h1
    rw [if_neg (fun h => h1 (by rw [h]))]
  · have h1 : l.length = m.length := by
      have : (l.length : Int) = (m.length : Int) := by simpa using h1
      omega
    obtain ⟨ae, kvs', σ', ⟨h2, rfl, rfl⟩, hcd⟩ := loop22 (exa := exa) (exb := exb) (cpb := cpb) hn hnb h1 hl 0 _ _ ⟨by omega, rfl, rfl, rfl⟩
    rcases h2 with ⟨rfl, h2⟩ | ⟨rfl, h2⟩
    · exact .inl ⟨hcd, by rw [if_pos h2]⟩
    · exact .inr ⟨hcd, by rw [if_neg h2]⟩

theorem sum21 {p q : List Int} {e g : Int} {ex : Bool} {a b : AV} (ha : FA p e true a) (hb : FA q g ex b) : Sm 21 [a, b] (.int .i64 (if e = g ∧ p = q then 1 else 0)) := by
  obtain ⟨nlf, xs, cp, rfl, h1, h2, h3, h4⟩ := ha
  obtain ⟨nlg, xsg, cpg, rfl, h5, -, h6, h7⟩ := hb
  have := h2 rfl
  subst this
  refine sum_vc (vc21 ..) ?_
  refine br_i (fun h => ?_) (fun h => ?_)
  · have h : e ≠ g := by simpa using h
    rw [if_neg (fun h8 => h h8.1)]
  · have h : e = g := by simpa using h
    refine ⟨_, sum22 ⟨nlf, xs, rfl, by omega, h3⟩ ⟨nlg, xsg, cpg, rfl, h5, by omega, h6⟩, ?_⟩
    simp [h]

/-- How many are there in front of one. -/
def cntM (hs : List Bool) (p : Nat) : Nat := ((hs.take p).drop 1).count true
/-- The path of a part, by definition. -/
def pathM (p : Nat) (hs : List Bool) : List Int :=
  if p = 0 then [0] else if p = 11 then [1] else if p = 12 then [2] else if hs.getD p false = true then [0, (cntM hs p : Nat)] else []

theorem tagLeL_bools : ∀ (l : List Bool), tagLeL 0 (l.map AV.bool) = true
  | [] => rfl
  | _ :: l => by simp only [List.map_cons, tagLeL, tagLe, tagLeL_bools l, Bool.and_self]

theorem bools_at {hs : List Bool} {i : Nat} (h : i < hs.length) : (hs.map AV.bool).drop i = .bool hs[i] :: (hs.map AV.bool).drop (i + 1) := by
  rw [List.drop_eq_getElem_cons (by simpa using h)]
  simp

theorem cntM_succ {hs : List Bool} {i : Nat} (h : i < hs.length) (h1 : 1 ≤ i) : cntM hs (i + 1) = cntM hs i + (if hs[i] = true then 1 else 0) := by
  unfold cntM
  rw [List.take_succ_eq_append_getElem h, List.drop_append_of_le_length (by simp; omega), List.count_append]
  cases hs[i] <;> simp

theorem loop23 {hs : List Bool} (hl : hs.length = 13) {p : Nat} (hp : p < 13) (hp1 : 1 ≤ p) :
    ∀ (x : Nat) (kvs : List (Nat × AV)) (σ : St), (1 ≤ x ∧ x ≤ p ∧ kvs = [(0, .int .u8 p), (3, .ref 0 0), (5, .int .i64 (cntM hs x : Nat)), (6, .int .i64 x)] ∧ σ = ⟨[some (.cells (hs.map AV.bool) 34 false)], 0⟩) →
      ∃ ae kvs' σ', (ae = .exit 1 ∧ kvs' = [(5, .int .i64 (cntM hs p : Nat))] ∧ σ' = ⟨[], 0⟩) ∧ Cd 0 (.loop (bodyL Tryd.f23 1)) (frOf 34 kvs) σ ae (frOf 34 kvs') σ' := by
  refine loop_by (tb := tb_r23) (f := 23) (c := bodyL Tryd.f23 1) (k := 0) (N := 34) (keepN := [0, 3, 5, 6]) (keepX := [5]) env_ok _ _ (fun x => p - x) ?_
  rintro i kvs σ ⟨h1, hi, rfl, rfl⟩
  rw [r23]
  have hwp : IntKind.i64.wrap (p : Int) = p := wrap_small (by omega) (by omega)
  rw [hwp]
  have hc13 : cntM hs i ≤ 13 := by
    have : cntM hs i ≤ ((hs.take i).drop 1).length := List.count_le_length
    simp at this
    omega
  refine br_i (fun hlt => ?_) (fun hge => ?_)
  · have hlt : i < p := by have := of_decide_eq_true hlt; omega
    have hw : IntKind.i64.wrap ((i : Int) + 1) = ((i + 1 : Nat) : Int) := by rw [wrap_small (by omega) (by omega)]; simp
    have hw2 : IntKind.i64.wrap ((cntM hs i : Int) + 1) = ((cntM hs i + 1 : Nat) : Int) := by rw [wrap_small (by omega) (by omega)]; simp
    have hs1 := cntM_succ (hs := hs) (i := i) (by omega) h1
    refine ⟨by omega, by omega, _, _, by rw [Int.toNat_natCast, Nat.mul_one, Nat.zero_add]; exact bools_at (by omega), br_i (fun hb => ⟨tagLeL_bools _, ?_⟩) (fun hb => ⟨tagLeL_bools _, ?_⟩)⟩
    · rw [if_pos hb] at hs1
      exact ⟨i + 1, by omega, ⟨by omega, by omega, by rw [hw, hw2, hs1], rfl⟩, fun ae kvs σ h => h⟩
    · rw [if_neg (by simp [hb])] at hs1
      exact ⟨i + 1, by omega, ⟨by omega, by omega, by rw [hw, hs1]; rfl, rfl⟩, fun ae kvs σ h => h⟩
  · have hge : i = p := by have := of_decide_eq_false hge; omega
    subst hge
    exact ⟨rfl, rfl, rfl⟩

theorem sum23 {hs : List Bool} (hl : hs.length = 13) {p : Nat} (hp : p < 13) : ∃ a, SI .i64 (pathM p hs) a ∧ Sm 23 [.int .u8 p, .agg (hs.map AV.bool)] a := by
  match hs, hl with
  | [h0, h1, h2, h3, h4, h5, h6, h7, h8, h9, ha, hb, hc], hl =>
  refine sum_ex _ (vc23 p h0 h1 h2 h3 h4 h5 h6 h7 h8 h9 ha hb hc _) ?_
  refine br_i (fun h => ?_) (fun h => br_i (fun g => ?_) (fun g => br_i (fun k => ?_) (fun k => ?_)))
  · have h : p = 0 := by have : (p : Int) = 0 := by simpa using h
                         omega
    subst h
    exact ⟨_, rfl, false, [], some 1, rfl, capOk_some, by simp [pathM], by simp⟩
  · have g : p = 11 := by have : (p : Int) = 11 := by simpa using g
                          omega
    subst g
    exact ⟨_, rfl, false, [], some 1, rfl, capOk_some, by simp [pathM], by simp⟩
  · have k : p = 12 := by have : (p : Int) = 12 := by simpa using k
                          omega
    subst k
    exact ⟨_, rfl, false, [], some 1, rfl, capOk_some, by simp [pathM], by simp⟩
  · have h : p ≠ 0 := by intro e; subst e; simp at h
    have g : p ≠ 11 := by intro e; subst e; simp at g
    have k : p ≠ 12 := by intro e; subst e; simp at k
    generalize hhs : [h0, h1, h2, h3, h4, h5, h6, h7, h8, h9, ha, hb, hc] = hs at hl ⊢
    have hm : [AV.bool h0, AV.bool h1, AV.bool h2, AV.bool h3, AV.bool h4, AV.bool h5, AV.bool h6, AV.bool h7, AV.bool h8, AV.bool h9, AV.bool ha, AV.bool hb, AV.bool hc] = hs.map AV.bool := by rw [← hhs]; rfl
    rw [hm]
    refine ⟨by omega, by omega, _, _, by rw [Int.toNat_natCast, Nat.mul_one, Nat.zero_add]; exact bools_at (by omega), br_i (fun hb => ?_) (fun hb => ?_)⟩
    · have hb : hs.getD p false = false := by simpa [List.getD_eq_getElem?_getD, List.getElem?_eq_getElem (show p < hs.length by omega)] using hb
      unfold pathM
      rw [if_neg h, if_neg g, if_neg k, if_neg (by rw [hb]; decide)]
      exact ⟨_, rfl, si_nil⟩
    · have hb : hs.getD p false = true := by simpa [List.getD_eq_getElem?_getD, List.getElem?_eq_getElem (show p < hs.length by omega)] using hb
      unfold pathM
      rw [if_neg h, if_neg g, if_neg k, if_pos hb]
      obtain ⟨ae, kvs', σ', ⟨rfl, rfl, rfl⟩, hcd⟩ := loop23 hl hp (by omega) 1 _ _ ⟨by omega, by omega, rfl, rfl⟩
      refine ⟨_, ?_, _, rfl, false, [], some 2, rfl, capOk_some, by simp, by simp⟩
      have hc1 : cntM hs 1 = 0 := by
        unfold cntM
        have : ((hs.take 1).drop 1).length = 0 := by simp
        rw [List.length_eq_zero_iff.1 this]; rfl
      rw [hc1] at hcd
      exact hcd

/-! clone -/
mutual
def El.Bd : El → Prop
  | .mk _ _ _ bs subs => bs.length ≤ 2 ^ 20 ∧ subs.length ≤ 2 ^ 20 ∧ El.BdL subs
def El.BdL : List El → Prop
  | [] => True
  | e :: es => e.Bd ∧ El.BdL es
end

theorem El.BdL.at {l : List El} (h : El.BdL l) {i : Nat} (hi : i < l.length) : l[i].Bd := by
  induction l generalizing i with
  | nil => simp at hi
  | cons e es ih =>
    simp only [El.BdL] at h
    cases i with
    | zero => exact h.1
    | succ i => exact ih h.2 (by simpa using hi)

theorem sum63 {l : List Int} {a : AV} (h : SI .u8 l a) : ∃ b, SX .u8 l b ∧ Sm 63 [a] b := by
  obtain ⟨nl, ex, cp, rfl, hc, hl, hn⟩ := h
  refine sum_ex _ (vc63 ..) ?_
  refine ⟨by omega, ?_, by omega, by omega, _, rfl, nl, if l.length = 0 then [] else ex, ?_, hl, hn⟩
  · cases cp with
    | none => simp
    | some c => have := hc c rfl; simp; omega
  · split
    · rename_i h; rw [List.length_eq_zero_iff.1 h]; rfl
    · rfl

theorem sum64 {l : List Int} {a : AV} (h : SI .u8 l a) (hb : l.length ≤ 2 ^ 20) : ∃ b, SI .u8 l b ∧ Sm 64 [a] b := by
  obtain ⟨nl, ex, cp, rfl, hc, hl, hn⟩ := h
  refine sum_ex _ (vc64 ..) ?_
  have e1 : List.take (l.length * 1) (l.map (AV.int .u8) ++ ex) = l.map (AV.int .u8) := by rw [Nat.mul_one]; exact List.take_left' (List.length_map _)
  rw [e1]
  refine br_i (fun h1 => ?_) (fun h1 => ⟨by simp, br_i (fun h2 => ?_) (fun h2 => br_f ?_ ?_)⟩)
  · have := hn h1
    subst this
    exact ⟨_, rfl, true, [], some 0, rfl, capOk_some, by simp, fun _ => rfl⟩
  · have h2 : l = [] := List.length_eq_zero_iff.1 (Nat.eq_of_beq_eq_true h2)
    subst h2
    exact ⟨rfl, _, rfl, false, [], some 0, rfl, capOk_some, by simp, fun _ => rfl⟩
  · have h2 : l.length ≠ 0 := by intro h; rw [h] at h2; simp at h2
    rw [Bool.eq_false_iff]
    intro h
    have := Nat.le_of_ble_eq_true h
    omega
  · exact ⟨by omega, by omega, by omega, by simp, _, rfl, false, [], none, by simp, capOk_none, hl, by simp⟩

theorem ElA.cells {e : El} {cells : List AV} (h : ElA e cells) : ∃ c k n b1 cs2 n3 cp4 b5 cs6 n7 cp8, cells = [.int .u8 c, .bool k, .int .u32 n, .lsl b1 0 cs2 n3 cp4, .lsl b5 0 cs6 n7 cp8] := by
  cases e
  obtain ⟨_, _, _, _, _, _, rfl, _⟩ := h.out
  exact ⟨_, _, _, _, _, _, _, _, _, _, _, rfl⟩

theorem ElA.tag {e : El} {cells : List AV} (h : ElA e cells) : tagLeL 0 cells = true := by
  obtain ⟨_, _, _, _, _, _, _, _, _, _, _, rfl⟩ := h.cells
  simp [tagLeL, tagLe]

theorem ElsA.snoc {l : List El} {cs : List AV} (h : ElsA l cs) (hl : cs.length = l.length * 5) {e : El} {ce r : List AV} (he : ElA e ce) : ElsA (l ++ [e]) (cs ++ ce ++ r) := by
  induction l generalizing cs with
  | nil =>
    simp at hl
    subst hl
    simp only [List.nil_append, ElsA]
    exact ⟨ce, r, rfl, he, trivial⟩
  | cons x xs ih =>
    simp only [ElsA] at h
    obtain ⟨c, t, rfl, hx, hxs⟩ := h
    have := hx.len
    simp only [List.cons_append, ElsA]
    refine ⟨c, t ++ ce ++ r, by simp, hx, ih hxs ?_⟩
    simp at hl
    omega

def Cln (e : El) : Prop := e.Bd → ∀ {cells : List AV}, ElA e cells → ∃ cells', ElA e cells' ∧ Sm 49 [.agg cells] (.agg cells')

theorem loop49 {subs : List El} (hcln : ∀ e ∈ subs, Cln e) (hbd : El.BdL subs) (hsl : subs.length ≤ 2 ^ 20) {nls : Bool} {css : List AV} {cps : Option Nat} (hn : nls = true → subs = []) (hs : ElsA subs css)
    (ek nle1 nle2 zk nlz1 nlz2 : Bool) (lene1 lene2 lenz1 lenz2 : Nat) (cse1 cse2 csz1 csz2 : List AV) (cpe1 cpe2 cpz1 cpz2 : Option Nat) (ec en zc zn : Int) :
    ∀ (x : Nat × List AV × List AV) (kvs : List (Nat × AV)) (σ : St), (x.1 ≤ subs.length ∧ ElsA (subs.take x.1) x.2.1 ∧ x.2.1.length = x.1 * 5 ∧ x.2.2.length = (subs.length - x.1) * 5 ∧ tagLeL 0 x.2.1 = true ∧ tagLeL 0 x.2.2 = true ∧
        kvs = [(1, .ref 0 0), (2, .ref 1 0), (3, .rsl 2 0 subs.length (some subs.length)), (16, .lsl nls 0 css subs.length cps), (17, .int .i64 (subs.length : Nat)), (18, .int .i64 x.1)] ∧
        σ = ⟨[some (.cells [.int .u8 ec, .bool ek, .int .u32 en, .lsl nle1 0 cse1 lene1 cpe1, .lsl nle2 0 cse2 lene2 cpe2] 32 false), some (.cells [.int .u8 zc, .bool zk, .int .u32 zn, .lsl nlz1 0 csz1 lenz1 cpz1, .lsl nlz2 0 csz2 lenz2 cpz2] 32 false), some (.cells (x.2.1 ++ x.2.2) 32 false)], 0⟩) →
      ∃ ae kvs' σ', (ae = .exit 0 ∧ kvs' = [(1, .ref 0 0), (2, .ref 1 0), (3, .rsl 2 0 subs.length (some subs.length))] ∧ ∃ d, ElsA subs d ∧ tagLeL 0 d = true ∧
        σ' = ⟨[some (.cells [.int .u8 ec, .bool ek, .int .u32 en, .lsl nle1 0 cse1 lene1 cpe1, .lsl nle2 0 cse2 lene2 cpe2] 32 false), some (.cells [.int .u8 zc, .bool zk, .int .u32 zn, .lsl nlz1 0 csz1 lenz1 cpz1, .lsl nlz2 0 csz2 lenz2 cpz2] 32 false), some (.cells d 32 false)], 0⟩) ∧
        Cd 0 (.loop (bodyL Tryd.f49 0)) (frOf 32 kvs) σ ae (frOf 32 kvs') σ' := by
  refine loop_by (tb := tb_r49) (f := 49) (c := bodyL Tryd.f49 0) (k := 0) (N := 32) (keepN := [1, 2, 3, 16, 17, 18]) (keepX := [1, 2, 3]) env_ok _ _ (fun x => subs.length - x.1) ?_
  rintro ⟨i, d, r⟩ kvs σ ⟨hi, hd, hdl, hrl, hdt, hrt, rfl, rfl⟩
  simp only at hi hd hdl hrl hdt hrt ⊢
  have htag : tagLeL 0 (d ++ r) = true := by rw [tagLeL_append, hdt, hrt]; rfl
  rw [r49]
  refine br_i (fun hlt => ?_) (fun hge => ?_)
  · have hlt : i < subs.length := by have := of_decide_eq_true hlt; omega
    have hnl : nls = false := by
      cases nls
      · rfl
      · rw [hn rfl] at hlt; simp at hlt
    have hw : IntKind.i64.wrap ((i : Int) + 1) = ((i + 1 : Nat) : Int) := by rw [wrap_small (by omega) (by omega)]; simp
    obtain ⟨c5, k5, n5, bs5, ss5, nla, exa, cpa, nlb, csb, cpb, tl, hget, hdrop, hel⟩ := hs.cell hlt
    have hxe : El.mk c5 k5 n5 bs5 ss5 = subs[i] := by rw [List.getElem?_eq_getElem hlt] at hget; exact (Option.some.inj hget).symm
    have hmem : El.mk c5 k5 n5 bs5 ss5 ∈ subs := by rw [hxe]; exact List.getElem_mem _
    obtain ⟨cells', hel', hsm⟩ := hcln _ hmem (by rw [hxe]; exact hbd.at hlt) hel
    have htg' := hel'.tag
    have hln' := hel'.len
    obtain ⟨_, _, _, _, _, _, _, _, _, _, _, rfl⟩ := hel'.cells
    have hput : ∀ five : List AV, five.length = 5 → putL (d ++ r) (0 + Int.toNat (i : Int) * 5) five = (d ++ five) ++ r.drop 5 := by
      intro five h5
      unfold putL
      rw [Int.toNat_natCast, Nat.zero_add, ← hdl, List.take_left' rfl, h5, ← List.drop_drop, List.drop_left' rfl]
    refine ⟨hnl, by omega, by omega, _, _, _, _, _, _, _, _, _, _, _, _, by rw [Int.toNat_natCast]; exact hdrop, _, _, _, _, _, _, _, _, _, _, _, hsm, by omega, by omega, ?_, rfl, rfl, ?_, ?_⟩
    · have h5 : (subs.length - i) * 5 ≥ 5 := by omega
      rw [List.length_append, Int.toNat_natCast]; omega
    · rw [hput _ rfl, tagLeL_append, tagLeL_append, hdt, htg']
      rw [← List.take_append_drop 5 r, tagLeL_append] at hrt
      simp only [Bool.and_eq_true] at hrt
      simp [hrt.2]
    · rw [hput _ rfl]
      refine ⟨(i + 1, d ++ [_, _, _, _, _], r.drop 5), by simp only; omega, ⟨by simp only; omega, ?_, ?_, ?_, ?_, ?_, by rw [hw], rfl⟩, fun ae kvs σ h => h⟩
      · simp only
        rw [List.take_succ_eq_append_getElem hlt, ← hxe]
        have := ElsA.snoc hd (by rw [hdl]; simp; omega) hel' (r := [])
        rw [List.append_nil] at this
        exact this
      · simp only [List.length_append, hdl, List.length_cons, List.length_nil]; omega
      · simp only [List.length_drop, hrl]; omega
      · simp only; rw [tagLeL_append, hdt, htg']; rfl
      · simp only
        rw [← List.take_append_drop 5 r, tagLeL_append] at hrt
        simp only [Bool.and_eq_true] at hrt
        exact hrt.2
  · have hge : i = subs.length := by have := of_decide_eq_false hge; omega
    subst hge
    rw [List.take_length] at hd
    have hr0 : r = [] := List.length_eq_zero_iff.1 (by rw [hrl]; omega)
    subst hr0
    rw [List.append_nil] at htag ⊢
    exact ⟨rfl, rfl, htag, rfl, rfl, d, hd, hdt, rfl⟩

theorem tagLeL_of {K : Nat} : ∀ {xs : List AV}, (∀ a ∈ xs, tagLe K a = true) → tagLeL K xs = true
  | [], _ => rfl
  | a :: xs, h => by
    simp only [tagLeL, h a (List.mem_cons_self ..), tagLeL_of fun b hb => h b (List.mem_cons_of_mem _ hb), Bool.and_self]

theorem madeRow_tag (n : Nat) : tagLeL 0 (madeRow [.int .u8 0, .bool false, .int .u32 0, nilS, nilS] (n * 5)) = true := by
  refine tagLeL_of fun a ha => ?_
  unfold madeRow at ha
  obtain ⟨i, -, rfl⟩ := List.mem_map.1 ha
  simp only [List.length_cons, List.length_nil]
  have : i % (0 + 1 + 1 + 1 + 1 + 1) < 5 := Nat.mod_lt _ (by omega)
  generalize i % (0 + 1 + 1 + 1 + 1 + 1) = j at this
  match j, this with
  | 0, _ => rfl
  | 1, _ => rfl
  | 2, _ => rfl
  | 3, _ => rfl
  | 4, _ => rfl

theorem sum49 : ∀ e : El, Cln e := by
  refine El.ind fun c k n bs subs ih => ?_
  intro hbd cells h
  simp only [El.Bd] at hbd
  obtain ⟨hb1, hb2, hb3⟩ := hbd
  obtain ⟨nl1, ex1, cp1, nl2, cs2, cp2, rfl, hc1, hl1, hn1, hc2, hl2, hn2, hs⟩ := h.out
  obtain ⟨b64, hb64, h64⟩ := sum64 (a := .lsl nl1 0 (bs.map (AV.int .u8) ++ ex1) bs.length cp1) ⟨nl1, ex1, cp1, rfl, hc1, hl1, hn1⟩ hb1
  obtain ⟨b63, hb63, h63⟩ := sum63 hb64
  obtain ⟨_, _, _, rfl, -⟩ := hb64
  have hb630 := hb63
  obtain ⟨_, _, rfl, -⟩ := hb63
  have hend : ∃ v, (∃ cells', ElA (.mk c k n bs subs) cells' ∧ v = .agg cells') ∧ Sm 49 [.agg [.int .u8 c, .bool k, .int .u32 n, .lsl nl1 0 (bs.map (AV.int .u8) ++ ex1) bs.length cp1, .lsl nl2 0 cs2 subs.length cp2]] v := by
    refine sum_ex _ (vc49 ..) ?_
    refine ⟨_, _, _, _, h64, _, _, _, _, h63, by omega, by omega, by omega, by omega, rfl, rfl, madeRow_tag _, ?_⟩
    obtain ⟨ae, kvs', σ', ⟨rfl, rfl, d, hd, hdt, rfl⟩, hcd⟩ := loop49 (nls := nl2) (css := cs2) (cps := cp2) ih hb3 hb2 hn2 hs k _ nl2 false true true _ subs.length 0 0 _ cs2 [] [] _ cp2 (some 0) (some 0) c n 0 0 (0, [], madeRow [.int .u8 0, .bool false, .int .u32 0, nilS, nilS] (subs.length * 5)) _ _ ⟨by simp, by simp [ElsA], rfl, by simp [madeRow], rfl, madeRow_tag _, rfl, rfl⟩
    refine ⟨_, _, _, hcd, hdt, _, rfl, _, ?_, rfl⟩
    simp only [ElA]
    exact ⟨_, _, _, _, rfl, hb630.si, capOk_some, hl2, by simp, hd⟩
  obtain ⟨v, ⟨cells', h1, rfl⟩, h2⟩ := hend
  exact ⟨cells', h1, h2⟩

/-- By a tree: it gives what has a form. -/
theorem sum_fn {α : Type} {tb : List (FuncId × Sc)} {f : FuncId} {args : List AV} (g : α → AV) (P : α → Prop) {p : Prop} (h : dataT Tryd.prog env tb f args (fun o => ∃ x, o = .ret (g x) ∧ P x) = p) (hp : p) : ∃ x, P x ∧ Sm f args (g x) := by
  obtain ⟨out, ⟨x, rfl, hk⟩, hx⟩ := dataT_ok env_ok (h ▸ hp)
  exact ⟨x, hk, hx⟩

/-! At -/
def El.zero : El := .mk 0 false 0 [] []
abbrev zC : List AV := [.int .u8 0, .bool false, .int .u32 0, nilS, nilS]
theorem ela_zero : ElA El.zero zC := by
  simp only [El.zero, ElA]
  exact ⟨_, _, _, _, rfl, ⟨true, [], some 0, rfl, capOk_some, by simp, fun _ => rfl⟩, capOk_some, by simp, fun _ => trivial, trivial⟩

def stepM (e : El) (i : Int) : Option El := if i < 0 then none else e.subs[i.toNat]?
def atM : El → List Int → Option El
  | e, [] => some e
  | e, i :: r => match stepM e i with
    | none => none
    | some x => atM x r

theorem stepM_bd {e x : El} {i : Int} (h : e.Bd) (hx : stepM e i = some x) : x.Bd := by
  unfold stepM at hx
  split at hx
  · cases hx
  · obtain ⟨c, k, n, bs, subs⟩ := e
    simp only [El.Bd] at h
    obtain ⟨hi, rfl⟩ := List.getElem?_eq_some_iff.1 hx
    exact h.2.2.at hi

theorem atM_bd : ∀ {p : List Int} {e x : El}, e.Bd → atM e p = some x → x.Bd
  | [], e, x, h, hx => by simp only [atM, Option.some.injEq] at hx; exact hx ▸ h
  | i :: r, e, x, h, hx => by
    simp only [atM] at hx
    split at hx
    · cases hx
    · rename_i y hy; exact atM_bd (stepM_bd h hy) hx

theorem sum48 {e : El} {cells : List AV} (h : ElA e cells) (i : Int) : ∃ c', ElA ((stepM e i).getD El.zero) c' ∧ Sm 48 [.agg cells, .int .i64 i] (.tup [.agg c', .bool (stepM e i).isSome]) := by
  obtain ⟨c, k, n, bs, subs⟩ := e
  obtain ⟨nl1, ex1, cp1, nl2, cs2, cp2, rfl, hc1, hl1, hn1, hc2, hl2, hn2, hs⟩ := h.out
  have hend : ∃ v, (∃ c', ElA ((stepM (.mk c k n bs subs) i).getD El.zero) c' ∧ v = .tup [.agg c', .bool (stepM (.mk c k n bs subs) i).isSome]) ∧ Sm 48 [.agg [.int .u8 c, .bool k, .int .u32 n, .lsl nl1 0 (bs.map (AV.int .u8) ++ ex1) bs.length cp1, .lsl nl2 0 cs2 subs.length cp2], .int .i64 i] v := by
    refine sum_ex _ (vc48 ..) ?_
    refine br_i (fun h1 => ?_) (fun h1 => br_i (fun h2 => ?_) (fun h2 => ?_))
    · have h1 := of_decide_eq_true h1
      have hst : stepM (.mk c k n bs subs) i = none := by unfold stepM; rw [if_pos h1]
      rw [hst]
      exact ⟨_, rfl, zC, ela_zero, rfl⟩
    · have h1 := of_decide_eq_false h1
      have h2 := of_decide_eq_true h2
      have hst : stepM (.mk c k n bs subs) i = none := by
        unfold stepM; rw [if_neg h1]; exact List.getElem?_eq_none (by show subs.length ≤ _; omega)
      rw [hst]
      exact ⟨_, rfl, zC, ela_zero, rfl⟩
    · have h1 := of_decide_eq_false h1
      have h2 := of_decide_eq_false h2
      have hlt : i.toNat < subs.length := by omega
      have hnl : nl2 = false := by
        cases nl2
        · rfl
        · rw [hn2 rfl] at hlt; simp at hlt
      obtain ⟨c5, k5, n5, bs5, ss5, nla, exa, cpa, nlb, csb, cpb, tl, hget, hdrop, hel⟩ := hs.cell hlt
      have hst : stepM (.mk c k n bs subs) i = some (.mk c5 k5 n5 bs5 ss5) := by unfold stepM; rw [if_neg h1]; exact hget
      rw [hst]
      exact ⟨hnl, by omega, by omega, _, _, _, _, _, _, _, _, _, _, _, _, hdrop, _, rfl, _, hel, rfl⟩
  obtain ⟨v, ⟨c', h1, rfl⟩, h2⟩ := hend
  exact ⟨c', h1, h2⟩

theorem loop31 {path : List Int} {nls : Bool} {ex : List AV} {cps : Option Nat} (hn : nls = true → path = []) (hl : path.length < 2 ^ 48) (e0 : El) :
    ∀ (x : Nat × El × List AV) (kvs : List (Nat × AV)) (σ : St), (x.1 ≤ path.length ∧ atM x.2.1 (path.drop x.1) = atM e0 path ∧ ElA x.2.1 x.2.2 ∧
        kvs = [(2, .ref 0 0), (4, .ref 1 0), (6, .bool true), (9, .lsl nls 0 (path.map (AV.int .i64) ++ ex) path.length cps), (10, .int .i64 (path.length : Nat)), (11, .int .i64 x.1)] ∧
        σ = ⟨[some (.cells x.2.2 32 false), some (.cells zC 32 false)], 0⟩) →
      ∃ ae kvs' σ', ((ae = .exit 0 ∧ kvs' = [(2, .ref 0 0), (4, .ref 1 0), (5, .any)] ∧ ∃ x c', atM e0 path = some x ∧ ElA x c' ∧ σ' = ⟨[some (.cells c' 32 false), some (.cells zC 32 false)], 0⟩) ∨
          (ae = .ret ∧ kvs' = [(2, .ref 0 0), (4, .ref 1 0), (5, .int .i64 19)] ∧ atM e0 path = none ∧ ∃ x c', ElA x c' ∧ σ' = ⟨[some (.cells c' 32 false), some (.cells zC 32 false)], 0⟩)) ∧
        Cd 0 (.loop (bodyL Tryd.f31 0)) (frOf 27 kvs) σ ae (frOf 27 kvs') σ' := by
  refine loop_by (tb := tb_r31) (f := 31) (c := bodyL Tryd.f31 0) (k := 0) (N := 27) (keepN := [2, 4, 6, 9, 10, 11]) (keepX := [2, 4, 5]) env_ok _ _ (fun x => path.length - x.1) ?_
  rintro ⟨i, e, cells⟩ kvs σ ⟨hi, ha, he, rfl, rfl⟩
  simp only at hi ha he ⊢
  have he0 := he
  obtain ⟨_, _, _, _, _, _, _, _, _, _, _, rfl⟩ := he.cells
  rw [r31]
  refine br_i (fun hlt => ?_) (fun hge => ?_)
  · have hlt : i < path.length := by have := of_decide_eq_true hlt; omega
    have hnl : nls = false := by
      cases nls
      · rfl
      · rw [hn rfl] at hlt; simp at hlt
    have hw : IntKind.i64.wrap ((i : Int) + 1) = ((i + 1 : Nat) : Int) := by rw [wrap_small (by omega) (by omega)]; simp
    obtain ⟨c', hc', hsm⟩ := sum48 he0 path[i]
    have hc0 := hc'
    obtain ⟨_, _, _, _, _, _, _, _, _, _, _, rfl⟩ := hc'.cells
    rw [List.drop_eq_getElem_cons hlt] at ha
    simp only [atM] at ha
    refine ⟨hnl, by omega, by omega, _, _, by rw [Int.toNat_natCast, Nat.mul_one]; exact SI.cells_at hlt, _, _, _, _, _, _, _, _, _, _, _, _, hsm, br_i (fun hz => ?_) (fun hz => ?_)⟩
    · have hz : stepM e path[i] = none := by simpa using hz
      rw [hz] at ha hc0
      exact .inr ⟨rfl, rfl, ha.symm, _, _, hc0, rfl⟩
    · obtain ⟨x, hx⟩ : ∃ x, stepM e path[i] = some x := by
        have : (stepM e path[i]).isSome = true := by simpa using hz
        exact Option.isSome_iff_exists.1 this
      rw [hx] at ha hc0
      refine ⟨(i + 1, x, _), by simp only; omega, ⟨by simp only; omega, ha, hc0, by rw [hw, hx]; rfl, rfl⟩, fun ae kvs σ h => h⟩
  · have hge : i = path.length := by have := of_decide_eq_false hge; omega
    subst hge
    rw [List.drop_length] at ha
    exact .inl ⟨rfl, rfl, e, _, ha.symm, he0, rfl⟩

theorem sum31 {e : El} {cells : List AV} (h : ElA e cells) (hbd : e.Bd) {path : List Int} {a : AV} (hp : SI .i64 path a) :
    ∃ c', ElA ((atM e path).getD El.zero) c' ∧ Sm 31 [.agg cells, a] (.tup [.agg c', .int .i64 (if (atM e path).isSome = true then 0 else 19)]) := by
  obtain ⟨nl, ex, cp, rfl, hc, hl, hn⟩ := hp
  have h0 := h
  obtain ⟨_, _, _, _, _, _, _, _, _, _, _, rfl⟩ := h.cells
  obtain ⟨ae, kvs', σ', hq, hcd⟩ := loop31 (ex := ex) (cps := cp) hn hl e (0, e, _) _ _ ⟨by simp, rfl, h0, rfl, rfl⟩
  rcases hq with ⟨rfl, rfl, x, c', hx, hc', rfl⟩ | ⟨rfl, rfl, hx, x, c', hc', rfl⟩
  · obtain ⟨c2, hc2, h49⟩ := sum49 x (atM_bd hbd hx) hc'
    have hc20 := hc2
    obtain ⟨_, _, _, _, _, _, _, _, _, _, _, rfl⟩ := hc'.cells
    obtain ⟨_, _, _, _, _, _, _, _, _, _, _, rfl⟩ := hc2.cells
    rw [hx]
    refine ⟨_, hc20, sum_vc (vc31 ..) ?_⟩
    exact ⟨_, _, _, _, _, _, _, _, _, _, _, .inl ⟨hcd, _, _, _, _, _, _, _, _, _, _, _, h49, rfl⟩⟩
  · obtain ⟨_, _, _, _, _, _, _, _, _, _, _, rfl⟩ := hc'.cells
    rw [hx]
    refine ⟨_, ela_zero, sum_vc (vc31 ..) ?_⟩
    exact ⟨_, _, _, _, _, _, _, _, _, _, _, .inr ⟨hcd, rfl⟩⟩

/-! skeletons.Element -/
def pathsOf (ks : List Int) : List (List Int) := [0] :: (ks.map (fun k => if k < 0 then [] else [0, k]) ++ [[1], [2]])
abbrev pA (l : List Int) : AV := .lsl l.isEmpty 0 (l.map (AV.int .i64)) l.length (some l.length)

theorem pA_sx {l : List Int} (h : l.length < 2 ^ 48) : SX .i64 l (pA l) := ⟨l.isEmpty, [], by simp, h, by simp⟩

theorem skL_eq (v : Int) (ks : List Int) : skL v ks = .int .i64 v :: (pathsOf ks).map pA := by
  unfold skL pathsOf
  simp only [List.map_cons, List.map_append, List.map_map]
  congr 2
  congr 1
  apply List.map_congr_left
  intro k _
  by_cases h : k < 0
  · simp [h, pc, pl]
  · simp [h, pc, pl]

def elemM (e : El) (p : Nat) : Option El := match ofM e with
  | .bad _ _ => none
  | .good _ ks => if 13 ≤ p then none else if (pathsOf ks).getD p [] = [] then none else atM e ((pathsOf ks).getD p [])

theorem pathsOf_len (ks : List Int) : (pathsOf ks).length = ks.length + 3 := by simp [pathsOf]
theorem pathsOf_small {ks : List Int} {i : Nat} (h : i < (pathsOf ks).length) : ((pathsOf ks)[i]).length ≤ 2 := by
  have : ∀ l ∈ pathsOf ks, l.length ≤ 2 := by
    intro l hl
    unfold pathsOf at hl
    simp only [List.mem_cons, List.mem_append, List.mem_map] at hl
    rcases hl with rfl | ⟨k, -, rfl⟩ | rfl | rfl | hl
    · simp
    · split <;> simp
    · simp
    · simp
    · cases hl
  exact this _ (List.getElem_mem _)

theorem sum24 {e : El} {cells : List AV} (h : ElA e cells) (hbd : e.Bd) (p : Nat) : ∃ c', ElA ((elemM e p).getD El.zero) c' ∧ Sm 24 [.agg cells, .int .u8 p] (.tup [.agg c', .bool (elemM e p).isSome]) := by
  have h0 := h
  obtain ⟨_, _, _, _, _, _, _, _, _, _, _, rfl⟩ := h.cells
  obtain ⟨v20, hv, hsm⟩ := sum20 h0
  refine sum_fn (fun c' => .tup [.agg c', .bool (elemM e p).isSome]) _ (vc24 ..) ?_
  match hof : ofM e with
  | .bad path err =>
    have hem : elemM e p = none := by unfold elemM; rw [hof]
    rw [hof] at hv
    obtain ⟨he, -, b, ⟨nlb, xs, cp, rfl, -⟩, rfl⟩ := hv
    rw [hem]
    exact ⟨_, _, _, _, _, _, _, _, _, _, _, _, _, _, _, _, _, _, _, _, _, _, _, _, _, _, _, _, _, _, _, _, _, _, _, _, _, _, _, _, _, _, _, _, _, _, _, _, _, _, _, _, _, _, _, _, _, _, hsm, br_t (by simpa using he) ⟨zC, rfl, ela_zero⟩⟩
  | .good v ks =>
    rw [hof] at hv
    obtain ⟨hk10, rfl⟩ := hv
    have hem : elemM e p = if 13 ≤ p then none else if (pathsOf ks).getD p [] = [] then none else atM e ((pathsOf ks).getD p []) := by unfold elemM; rw [hof]
    generalize elemM e p = r at hem ⊢
    match ks, hk10 with
    | [k1, k2, k3, k4, k5, k6, k7, k8, k9, k10], hk10 =>
    refine ⟨_, _, _, _, _, _, _, _, _, _, _, _, _, _, _, _, _, _, _, _, _, _, _, _, _, _, _, _, _, _, _, _, _, _, _, _, _, _, _, _, _, _, _, _, _, _, _, _, _, _, _, _, _, _, _, _, _, _, hsm, br_f (by simp) (br_i (fun h1 => ?_) (fun h1 => ?_))⟩
    · have h1 : 13 ≤ p := by have := of_decide_eq_true h1; omega
      rw [hem, if_pos h1]
      exact ⟨zC, rfl, ela_zero⟩
    · have h1 : p < 13 := by have := of_decide_eq_false h1; omega
      rw [if_neg (by omega)] at hem
      have hpl : p < (pathsOf [k1, k2, k3, k4, k5, k6, k7, k8, k9, k10]).length := by rw [pathsOf_len]; simp; omega
      have hpd : (pathsOf [k1, k2, k3, k4, k5, k6, k7, k8, k9, k10]).getD p [] = (pathsOf [k1, k2, k3, k4, k5, k6, k7, k8, k9, k10])[p] := by
        rw [List.getD_eq_getElem?_getD, List.getElem?_eq_getElem hpl]; rfl
      have hdrop : List.drop (1 + Int.toNat (p : Int) * 1) (skL v [k1, k2, k3, k4, k5, k6, k7, k8, k9, k10]) = pA (pathsOf [k1, k2, k3, k4, k5, k6, k7, k8, k9, k10])[p] :: ((pathsOf [k1, k2, k3, k4, k5, k6, k7, k8, k9, k10]).map pA).drop (p + 1) := by
        rw [skL_eq, Int.toNat_natCast, Nat.mul_one, Nat.add_comm, List.drop_succ_cons, List.drop_eq_getElem_cons (by simpa using hpl), List.getElem_map]
      rw [hpd] at hem
      have hsm2 := pathsOf_small hpl
      generalize (pathsOf [k1, k2, k3, k4, k5, k6, k7, k8, k9, k10])[p] = path at hdrop hem hsm2
      refine ⟨by omega, by omega, _, _, _, _, _, hdrop, br_i (fun h2 => ?_) (fun h2 => ⟨by omega, by omega, _, _, _, _, _, hdrop, ?_⟩)⟩
      · have h2 : path = [] := List.length_eq_zero_iff.1 (by have : (path.length : Int) = 0 := by simpa using h2
                                                             omega)
        rw [hem, if_pos h2]
        exact ⟨zC, rfl, ela_zero⟩
      · have h2 : path ≠ [] := by intro h; subst h; simp at h2
        rw [if_neg h2] at hem
        subst hem
        obtain ⟨c', hc', h31⟩ := sum31 h0 hbd (pA_sx (l := path) (by omega)).si
        have hc0 := hc'
        obtain ⟨_, _, _, _, _, _, _, _, _, _, _, rfl⟩ := hc'.cells
        refine ⟨_, _, _, _, _, _, _, _, _, _, _, _, h31, _, ?_, hc0⟩
        cases (atM e path).isSome <;> rfl

end Go.Vid
