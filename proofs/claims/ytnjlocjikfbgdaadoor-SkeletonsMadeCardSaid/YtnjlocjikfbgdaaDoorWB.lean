/-
Sequences, faults and explicit tags: summaries.
-/
import Derived.Test.YtnjlocjikfbgdaaDoorWA
set_option linter.all false
namespace Go.Vid
open Go.Proofs
set_option maxRecDepth 100000
set_option linter.unusedVariables false
section
open AExit AOut AV IntKind
theorem vc46 (ac an m : Int) (ak nla1 nla2 : Bool) (lena1 lena2 : Nat) (csa1 csa2 : List AV) (cpa1 cpa2 : Option Nat) (K : AOut → Prop) : (dataT Tryd.prog env [(61, { inl := true }), (79, { ops := [(1, [(5, Kd.w)])], inl := true }), (46, { ops := [(1, [(4, Kd.w)])] })] 46 [agg [int u8 ac, AV.bool ak, int u32 an, lsl nla1 0 csa1 lena1 cpa1, lsl nla2 0 csa2 lena2 cpa2], int u32 m] K) =
    (br (!(ac == (2 : Int) && (ak == true && an == m))) ((0 : Int) ≤ (0 : Int) ∧ (0 : Int) ≤ (0 : Int) ∧ (0 : Int) ≤ (0 : Int) ∧ (0 : Int) ≤ (0 : Int) ∧ K (AOut.ret (agg [lsl true 0 [] 0 (some 0), int i64 9]))) (br ((↑lena2 : Int) == (0 : Int)) ((0 : Int) ≤ (0 : Int) ∧ (0 : Int) ≤ (0 : Int) ∧ (0 : Int) ≤ (0 : Int) ∧ (0 : Int) ≤ (0 : Int) ∧ K (AOut.ret (agg [lsl true 0 [] 0 (some 0), int i64 7]))) (br (decide ((↑lena2 : Int) > (1 : Int))) ((0 : Int) ≤ (1 : Int) ∧ (1 : Int) ≤ (1 : Int) ∧ (0 : Int) ≤ (1 : Int) ∧ (1 : Int) ≤ (1 : Int) ∧ K (AOut.ret (agg [lsl false 0 [int i64 1] 1 (some 1), int i64 8]))) (K (AOut.ret (agg [lsl true 0 [] 0 (some 0), int i64 0])))))) := by kernel_rfl
theorem vc41 (ac an m : Int) (ak nla1 nla2 : Bool) (lena1 lena2 : Nat) (csa1 csa2 : List AV) (cpa1 cpa2 : Option Nat) (K : AOut → Prop) : (dataT Tryd.prog env [(59, { inl := true }), (41, { ops := [(1, [(4, Kd.b), (10, Kd.b)])] })] 41 [agg [int u8 ac, AV.bool ak, int u32 an, lsl nla1 0 csa1 lena1 cpa1, lsl nla2 0 csa2 lena2 cpa2], int u32 m] K) =
    (br (ac != (2 : Int)) (K (AOut.ret (agg [lsl true 0 [] 0 (some 0), int i64 9]))) (br (!ak) (K (AOut.ret (agg [lsl true 0 [] 0 (some 0), int i64 9]))) (br (an != m) (K (AOut.ret (agg [lsl true 0 [] 0 (some 0), int i64 9]))) (br ((↑lena2 : Int) == (0 : Int)) (K (AOut.ret (agg [lsl true 0 [] 0 (some 0), int i64 7]))) (br (decide ((↑lena2 : Int) > (1 : Int))) (K (AOut.ret (agg [lsl false 0 [int i64 1] 1 none, int i64 8]))) (K (AOut.ret (agg [lsl true 0 [] 0 (some 0), int i64 0])))))))) := by kernel_rfl
theorem vc47 (i fe : Int) (nlf : Bool) (lenf : Nat) (csf : List AV) (cpf : Option Nat) (K : AOut → Prop) : (dataT Tryd.prog env [(47, { ops := [(3, [(4, Kd.w)]), (4, [(2, Kd.w), (3, Kd.w)]), (5, [(1, Kd.w), (4, Kd.w)])], lax := [3] })] 47 [int i64 i, agg [lsl nlf 0 csf lenf cpf, int i64 fe]] K) =
    (br (fe == (0 : Int)) (K (AOut.ret (agg [lsl true 0 [] 0 (some 0), int i64 0]))) ((0 : Int) ≤ wrap i64 (↑(1 + lenf) : Int) ∧ wrap i64 (↑(1 + lenf) : Int) ≤ wrap i64 (↑(1 + lenf) : Int) ∧ wrap i64 (↑(1 + lenf) : Int) ≤ (70368744177664 : Int) ∧ Int.toNat (wrap i64 (↑(1 + lenf) : Int)) * 8 ≤ 70368744177664 ∧ (0 : Int) ≤ (0 : Int) ∧ (0 : Int) < (↑(Int.toNat (wrap i64 (↑(1 + lenf) : Int))) : Int) ∧ 1 ≤ List.length (madeRow [int i64 0] (Int.toNat (wrap i64 (↑(1 + lenf) : Int)) * 1)) ∧ (0 : Int) ≤ (1 : Int) ∧ (1 : Int) ≤ (↑(Int.toNat (wrap i64 (↑(1 + lenf) : Int))) : Int) ∧ lenf * 1 ≤ List.length csf ∧ (if Int.toNat (wrap i64 (↑(1 + lenf) : Int)) = 1 then 0 else 1) + Min.min lenf (Int.toNat (wrap i64 (↑(1 + lenf) : Int)) - 1) * 1 ≤ List.length (putL (madeRow [int i64 0] (Int.toNat (wrap i64 (↑(1 + lenf) : Int)) * 1)) 0 [int i64 i]) ∧ tagLeL 0 (putL (putL (madeRow [int i64 0] (Int.toNat (wrap i64 (↑(1 + lenf) : Int)) * 1)) 0 [int i64 i]) (if Int.toNat (wrap i64 (↑(1 + lenf) : Int)) = 1 then 0 else 1) (List.take (Min.min lenf (Int.toNat (wrap i64 (↑(1 + lenf) : Int)) - 1) * 1) csf)) = true ∧ K (AOut.ret (agg [lsl false 0 (List.drop 0 (putL (putL (madeRow [int i64 0] (Int.toNat (wrap i64 (↑(1 + lenf) : Int)) * 1)) 0 [int i64 i]) (if Int.toNat (wrap i64 (↑(1 + lenf) : Int)) = 1 then 0 else 1) (List.take (Min.min lenf (Int.toNat (wrap i64 (↑(1 + lenf) : Int)) - 1) * 1) csf))) (Int.toNat (wrap i64 (↑(1 + lenf) : Int))) (some (Int.toNat (wrap i64 (↑(1 + lenf) : Int)))), int i64 fe])))) := by kernel_rfl
theorem vc48 (ac an i : Int) (ak nla1 nla2 : Bool) (lena1 lena2 : Nat) (csa1 csa2 : List AV) (cpa1 cpa2 : Option Nat) (K : AOut → Prop) : (dataT Tryd.prog env [(48, { ops := [(1, [(2, Kd.b)]), (3, [(3, Kd.w)])] })] 48 [agg [int u8 ac, AV.bool ak, int u32 an, lsl nla1 0 csa1 lena1 cpa1, lsl nla2 0 csa2 lena2 cpa2], int i64 i] K) =
    (br (decide (i < (0 : Int))) (K (AOut.ret (tup [agg [int u8 0, AV.bool false, int u32 0, lsl true 0 [] 0 (some 0), lsl true 0 [] 0 (some 0)], AV.bool false]))) (br (decide (i ≥ (↑lena2 : Int))) (K (AOut.ret (tup [agg [int u8 0, AV.bool false, int u32 0, lsl true 0 [] 0 (some 0), lsl true 0 [] 0 (some 0)], AV.bool false]))) (nla2 = false ∧ (0 : Int) ≤ i ∧ i < (↑lena2 : Int) ∧ ∃ z1 b2 z3 b4 cs5 n6 cp7 b8 cs9 n10 cp11 cs12, List.drop (Int.toNat i * 5) csa2 = int u8 z1 :: AV.bool b2 :: int u32 z3 :: lsl b4 0 cs5 n6 cp7 :: lsl b8 0 cs9 n10 cp11 :: cs12 ∧ K (AOut.ret (tup [agg [int u8 z1, AV.bool b2, int u32 z3, lsl b4 0 cs5 n6 cp7, lsl b8 0 cs9 n10 cp11], AV.bool true]))))) := by kernel_rfl
abbrev tb_r43 : List (FuncId × Sc) := [(43, { ops := [(13, [(3, Kd.wi)]), (16, [(2, Kd.wi)]), (9, [(0, Kd.w)]), (12, [(5, Kd.b), (10, Kd.w)])], lax := [3] }), (61, { inl := true }), (79, { ops := [(1, [(5, Kd.w)])], inl := true }), (62, { ops := [(1, [(2, Kd.b), (7, Kd.w)])], inl := true })]
theorem r43 (nx i ec en fe : Int) (nll ek nle1 nle2 nlf : Bool) (mo co lenl lene1 lene2 lenf : Nat) (csl cse1 cse2 csf cso : List AV) (cpl cpe1 cpe2 cpf : Option Nat) (K : AExit → List (Nat × AV) → St → Prop) : (roundT Tryd.prog env tb_r43 43 (bodyL Tryd.f43 1) 0 83 [3, 7, 8, 9, 27, 28, 29] [3, 7, 8, 9, 6] [(3, ref 0 0), (7, ref 1 0), (8, int i64 nx), (9, rsl 2 0 mo (some co)), (27, lsl nll 0 csl lenl cpl), (28, int i64 (↑lenl : Int)), (29, int i64 i)] ⟨[some (AObj.cells [int u8 ec, AV.bool ek, int u32 en, lsl nle1 0 cse1 lene1 cpe1, lsl nle2 0 cse2 lene2 cpe2] 32 false), some (AObj.cells [lsl nlf 0 csf lenf cpf, int i64 fe] 50 false), some (AObj.cells cso 3 false)], 0⟩ K) =
    (br (decide (i < (↑lenl : Int))) (nll = false ∧ (0 : Int) ≤ i ∧ i < (↑lenl : Int) ∧ ∃ z1 b2 z3 b4 b5 cs6, List.drop (Int.toNat i * 5) csl = int u8 z1 :: AV.bool b2 :: int u32 z3 :: AV.bool b4 :: AV.bool b5 :: cs6 ∧ br (decide (nx < (↑lene2 : Int))) (nle2 = false ∧ (0 : Int) ≤ nx ∧ nx < (↑lene2 : Int) ∧ ∃ z7 b8 z9 b10 cs11 n12 cp13 b14 cs15 n16 cp17 cs18, List.drop (Int.toNat nx * 5) cse2 = int u8 z7 :: AV.bool b8 :: int u32 z9 :: lsl b10 0 cs11 n12 cp13 :: lsl b14 0 cs15 n16 cp17 :: cs18 ∧ br b4 (1 ≤ 1 ∧ 1 ≠ 0 ∧ mo + 1 ≤ co ∧ 0 + (mo + 1) * 1 ≤ List.length cso ∧ tagLeL 0 (putL cso (0 + mo * 1) [int i64 nx]) = true ∧ K normal [(3, ref 0 0), (7, ref 1 0), (8, int i64 (wrap i64 (nx + (1 : Int)))), (9, rsl 2 0 (mo + 1) (some co)), (27, lsl nll 0 csl lenl cpl), (28, int i64 (↑lenl : Int)), (29, int i64 (wrap i64 (i + (1 : Int))))] ⟨[some (AObj.cells [int u8 ec, AV.bool ek, int u32 en, lsl nle1 0 cse1 lene1 cpe1, lsl nle2 0 cse2 lene2 cpe2] 32 false), some (AObj.cells [lsl nlf 0 csf lenf cpf, int i64 fe] 50 false), some (AObj.cells (putL cso (0 + mo * 1) [int i64 nx]) 3 false)], 0⟩) (br (z1 == z7 && (b2 == b8 && z3 == z9)) (1 ≤ 1 ∧ 1 ≠ 0 ∧ mo + 1 ≤ co ∧ 0 + (mo + 1) * 1 ≤ List.length cso ∧ tagLeL 0 (putL cso (0 + mo * 1) [int i64 nx]) = true ∧ K normal [(3, ref 0 0), (7, ref 1 0), (8, int i64 (wrap i64 (nx + (1 : Int)))), (9, rsl 2 0 (mo + 1) (some co)), (27, lsl nll 0 csl lenl cpl), (28, int i64 (↑lenl : Int)), (29, int i64 (wrap i64 (i + (1 : Int))))] ⟨[some (AObj.cells [int u8 ec, AV.bool ek, int u32 en, lsl nle1 0 cse1 lene1 cpe1, lsl nle2 0 cse2 lene2 cpe2] 32 false), some (AObj.cells [lsl nlf 0 csf lenf cpf, int i64 fe] 50 false), some (AObj.cells (putL cso (0 + mo * 1) [int i64 nx]) 3 false)], 0⟩) (br b5 (1 ≤ 1 ∧ 1 ≠ 0 ∧ mo + 1 ≤ co ∧ 0 + (mo + 1) * 1 ≤ List.length cso ∧ tagLeL 0 (putL cso (0 + mo * 1) [int i64 (-1)]) = true ∧ K normal [(3, ref 0 0), (7, ref 1 0), (8, int i64 nx), (9, rsl 2 0 (mo + 1) (some co)), (27, lsl nll 0 csl lenl cpl), (28, int i64 (↑lenl : Int)), (29, int i64 (wrap i64 (i + (1 : Int))))] ⟨[some (AObj.cells [int u8 ec, AV.bool ek, int u32 en, lsl nle1 0 cse1 lene1 cpe1, lsl nle2 0 cse2 lene2 cpe2] 32 false), some (AObj.cells [lsl nlf 0 csf lenf cpf, int i64 fe] 50 false), some (AObj.cells (putL cso (0 + mo * 1) [int i64 (-1)]) 3 false)], 0⟩) (br (nx == (↑lene2 : Int)) ((0 : Int) ≤ (0 : Int) ∧ (0 : Int) ≤ (0 : Int) ∧ (0 : Int) ≤ (0 : Int) ∧ (0 : Int) ≤ (0 : Int) ∧ tagLeL 0 cso = true ∧ K AExit.ret [(3, ref 0 0), (7, ref 1 0), (8, int i64 nx), (9, rsl 2 0 mo (some co)), (6, lsl true 0 [] 0 (some 0))] ⟨[some (AObj.cells [int u8 ec, AV.bool ek, int u32 en, lsl nle1 0 cse1 lene1 cpe1, lsl nle2 0 cse2 lene2 cpe2] 32 false), some (AObj.cells [lsl true 0 [] 0 (some 0), int i64 7] 50 false), some (AObj.cells cso 3 false)], 0⟩) (true = true ∧ (0 : Int) ≤ (1 : Int) ∧ (1 : Int) ≤ (1 : Int) ∧ (0 : Int) ≤ (1 : Int) ∧ (1 : Int) ≤ (1 : Int) ∧ tagLeL 0 cso = true ∧ K AExit.ret [(3, ref 0 0), (7, ref 1 0), (8, int i64 nx), (9, rsl 2 0 mo (some co)), (6, lsl true 0 [] 0 (some 0))] ⟨[some (AObj.cells [int u8 ec, AV.bool ek, int u32 en, lsl nle1 0 cse1 lene1 cpe1, lsl nle2 0 cse2 lene2 cpe2] 32 false), some (AObj.cells [lsl false 0 [int i64 nx] 1 (some 1), int i64 9] 50 false), some (AObj.cells cso 3 false)], 0⟩))))) (br b5 (1 ≤ 1 ∧ 1 ≠ 0 ∧ mo + 1 ≤ co ∧ 0 + (mo + 1) * 1 ≤ List.length cso ∧ tagLeL 0 (putL cso (0 + mo * 1) [int i64 (-1)]) = true ∧ K normal [(3, ref 0 0), (7, ref 1 0), (8, int i64 nx), (9, rsl 2 0 (mo + 1) (some co)), (27, lsl nll 0 csl lenl cpl), (28, int i64 (↑lenl : Int)), (29, int i64 (wrap i64 (i + (1 : Int))))] ⟨[some (AObj.cells [int u8 ec, AV.bool ek, int u32 en, lsl nle1 0 cse1 lene1 cpe1, lsl nle2 0 cse2 lene2 cpe2] 32 false), some (AObj.cells [lsl nlf 0 csf lenf cpf, int i64 fe] 50 false), some (AObj.cells (putL cso (0 + mo * 1) [int i64 (-1)]) 3 false)], 0⟩) (br (nx == (↑lene2 : Int)) ((0 : Int) ≤ (0 : Int) ∧ (0 : Int) ≤ (0 : Int) ∧ (0 : Int) ≤ (0 : Int) ∧ (0 : Int) ≤ (0 : Int) ∧ tagLeL 0 cso = true ∧ K AExit.ret [(3, ref 0 0), (7, ref 1 0), (8, int i64 nx), (9, rsl 2 0 mo (some co)), (6, lsl true 0 [] 0 (some 0))] ⟨[some (AObj.cells [int u8 ec, AV.bool ek, int u32 en, lsl nle1 0 cse1 lene1 cpe1, lsl nle2 0 cse2 lene2 cpe2] 32 false), some (AObj.cells [lsl true 0 [] 0 (some 0), int i64 7] 50 false), some (AObj.cells cso 3 false)], 0⟩) (true = true ∧ (0 : Int) ≤ (1 : Int) ∧ (1 : Int) ≤ (1 : Int) ∧ (0 : Int) ≤ (1 : Int) ∧ (1 : Int) ≤ (1 : Int) ∧ tagLeL 0 cso = true ∧ K AExit.ret [(3, ref 0 0), (7, ref 1 0), (8, int i64 nx), (9, rsl 2 0 mo (some co)), (6, lsl true 0 [] 0 (some 0))] ⟨[some (AObj.cells [int u8 ec, AV.bool ek, int u32 en, lsl nle1 0 cse1 lene1 cpe1, lsl nle2 0 cse2 lene2 cpe2] 32 false), some (AObj.cells [lsl false 0 [int i64 nx] 1 (some 1), int i64 9] 50 false), some (AObj.cells cso 3 false)], 0⟩)))) (tagLeL 0 cso = true ∧ K (exit 1) [(3, ref 0 0), (7, ref 1 0), (8, int i64 nx), (9, rsl 2 0 mo (some co)), (6, any)] ⟨[some (AObj.cells [int u8 ec, AV.bool ek, int u32 en, lsl nle1 0 cse1 lene1 cpe1, lsl nle2 0 cse2 lene2 cpe2] 32 false), some (AObj.cells [lsl nlf 0 csf lenf cpf, int i64 fe] 50 false), some (AObj.cells cso 3 false)], 0⟩)) := by kernel_rfl
theorem vc43 (ec en tc tn : Int) (ek nle1 nle2 tk nll : Bool) (lene1 lene2 lenl : Nat) (cse1 cse2 csl : List AV) (cpe1 cpe2 cpl : Option Nat) (K : AOut → Prop) : (dataT Tryd.prog env [(43, { ops := [(3, [(3, Kd.w)]), (6, [(2, Kd.w)])], loops := [(1, LoopS.inv [3, 7, 8, 9, 27, 28, 29] fun _ σ => Sh.int fun nx' => Sh.nat fun m => Sh.nat fun co => Sh.cells fun cs => Sh.or (Sh.one (exit 1, [(3, ref 0 0), (7, ref 1 0), (8, int i64 nx'), (9, rsl 2 0 m (some co)), (6, any)], ⟨[List.getD (St.objs σ) 0 none, List.getD (St.objs σ) 1 none, some (AObj.cells cs 3 false)], 0⟩)) (Sh.bool fun nl => Sh.cells fun pcs => Sh.nat fun len => Sh.cap fun cp => Sh.int fun e => Sh.one (AExit.ret, [(3, ref 0 0), (7, ref 1 0), (8, int i64 nx'), (9, rsl 2 0 m (some co)), (6, lsl true 0 [] 0 (some 0))], ⟨[List.getD (St.objs σ) 0 none, some (AObj.cells [lsl nl 0 pcs len cp, int i64 e] 50 false), some (AObj.cells cs 3 false)], 0⟩)))], lax := [3] }), (61, { inl := true }), (79, { ops := [(1, [(5, Kd.w)])], inl := true })] 43 [agg [int u8 ec, AV.bool ek, int u32 en, lsl nle1 0 cse1 lene1 cpe1, lsl nle2 0 cse2 lene2 cpe2], agg [int u8 tc, AV.bool tk, int u32 tn], lsl nll 0 csl lenl cpl] K) =
    (br (decide ((↑lenl : Int) > (256 : Int))) ((0 : Int) ≤ (0 : Int) ∧ (0 : Int) ≤ (0 : Int) ∧ (0 : Int) ≤ (0 : Int) ∧ (0 : Int) ≤ (0 : Int) ∧ K (AOut.ret (tup [lsl true 0 [] 0 (some 0), agg [lsl true 0 [] 0 (some 0), int i64 3]]))) (br (!(ec == tc && (ek == tk && en == tn))) ((0 : Int) ≤ (0 : Int) ∧ (0 : Int) ≤ (0 : Int) ∧ (0 : Int) ≤ (0 : Int) ∧ (0 : Int) ≤ (0 : Int) ∧ K (AOut.ret (tup [lsl true 0 [] 0 (some 0), agg [lsl true 0 [] 0 (some 0), int i64 9]]))) ((0 : Int) ≤ (0 : Int) ∧ (0 : Int) ≤ (↑lenl : Int) ∧ (↑lenl : Int) ≤ (70368744177664 : Int) ∧ lenl * 8 ≤ 70368744177664 ∧ tagLeL 0 (madeRow [int i64 0] (lenl * 1)) = true ∧ ∃ z1 n2 n3 cs4, Cd 0 (Code.loop (bodyL Tryd.f43 1)) (frOf 83 [(3, ref 0 0), (7, ref 1 0), (8, int i64 0), (9, rsl 2 0 0 (some lenl)), (27, lsl nll 0 csl lenl cpl), (28, int i64 (↑lenl : Int)), (29, int i64 0)]) ⟨[some (AObj.cells [int u8 ec, AV.bool ek, int u32 en, lsl nle1 0 cse1 lene1 cpe1, lsl nle2 0 cse2 lene2 cpe2] 32 false), some (AObj.cells [lsl true 0 [] 0 (some 0), int i64 0] 50 false), some (AObj.cells (madeRow [int i64 0] (lenl * 1)) 3 false)], 0⟩ (exit 1) (frOf 83 [(3, ref 0 0), (7, ref 1 0), (8, int i64 z1), (9, rsl 2 0 n2 (some n3)), (6, any)]) ⟨[some (AObj.cells [int u8 ec, AV.bool ek, int u32 en, lsl nle1 0 cse1 lene1 cpe1, lsl nle2 0 cse2 lene2 cpe2] 32 false), some (AObj.cells [lsl true 0 [] 0 (some 0), int i64 0] 50 false), some (AObj.cells cs4 3 false)], 0⟩ ∧ br (decide (z1 < (↑lene2 : Int))) (true = true ∧ (0 : Int) ≤ (1 : Int) ∧ (1 : Int) ≤ (1 : Int) ∧ (0 : Int) ≤ (1 : Int) ∧ (1 : Int) ≤ (1 : Int) ∧ K (AOut.ret (tup [lsl true 0 [] 0 (some 0), agg [lsl false 0 [int i64 z1] 1 (some 1), int i64 8]]))) (tagLeL 0 cs4 = true ∧ K (AOut.ret (tup [lsl false 0 cs4 n2 (some n3), agg [lsl true 0 [] 0 (some 0), int i64 0]]))) ∨ ∃ b5 cs6 n7 cp8 z9, Cd 0 (Code.loop (bodyL Tryd.f43 1)) (frOf 83 [(3, ref 0 0), (7, ref 1 0), (8, int i64 0), (9, rsl 2 0 0 (some lenl)), (27, lsl nll 0 csl lenl cpl), (28, int i64 (↑lenl : Int)), (29, int i64 0)]) ⟨[some (AObj.cells [int u8 ec, AV.bool ek, int u32 en, lsl nle1 0 cse1 lene1 cpe1, lsl nle2 0 cse2 lene2 cpe2] 32 false), some (AObj.cells [lsl true 0 [] 0 (some 0), int i64 0] 50 false), some (AObj.cells (madeRow [int i64 0] (lenl * 1)) 3 false)], 0⟩ AExit.ret (frOf 83 [(3, ref 0 0), (7, ref 1 0), (8, int i64 z1), (9, rsl 2 0 n2 (some n3)), (6, lsl true 0 [] 0 (some 0))]) ⟨[some (AObj.cells [int u8 ec, AV.bool ek, int u32 en, lsl nle1 0 cse1 lene1 cpe1, lsl nle2 0 cse2 lene2 cpe2] 32 false), some (AObj.cells [lsl b5 0 cs6 n7 cp8, int i64 z9] 50 false), some (AObj.cells cs4 3 false)], 0⟩ ∧ K (AOut.ret (tup [lsl true 0 [] 0 (some 0), agg [lsl b5 0 cs6 n7 cp8, int i64 z9]]))))) := by kernel_rfl
end

structure Fld where
  c : Int
  k : Bool
  n : Int
  any : Bool
  opt : Bool

def fldCells (f : Fld) : List AV := [.int .u8 f.c, .bool f.k, .int .u32 f.n, .bool f.any, .bool f.opt]

def El.c : El → Int
  | .mk c _ _ _ _ => c
def El.k : El → Bool
  | .mk _ k _ _ _ => k
def El.n : El → Int
  | .mk _ _ n _ _ => n

def fits (f : Fld) (e : El) : Bool := f.any || (f.c == e.c && (f.k == e.k && f.n == e.n))

def fitsAt (subs : List El) (nx : Nat) (f : Fld) : Bool := match subs[nx]? with
  | some e => fits f e
  | none => false

/-- The fields from one on: error, its path, the indices, the next element. -/
def seqGo (subs : List El) : List Fld → Nat → List Int → Int × List Int × List Int × Nat
  | [], nx, out => (0, [], out, nx)
  | f :: fs, nx, out =>
    if fitsAt subs nx f = true then seqGo subs fs (nx + 1) (out ++ [(nx : Int)])
    else if f.opt = true then seqGo subs fs nx (out ++ [-1])
    else if nx = subs.length then (7, [], out, nx) else (9, [(nx : Int)], out, nx)

def seqEnd (sl : Nat) (r : Int × List Int × List Int × Nat) : Int × List Int × List Int :=
  if r.1 = 0 then (if r.2.2.2 < sl then (8, [(r.2.2.2 : Int)], []) else (0, [], r.2.2.1)) else (r.1, r.2.1, [])

/-- Sequence: error, its path, the indices. -/
def seqF (c : Int) (k : Bool) (n : Int) (subs : List El) (tc : Int) (tk : Bool) (tn : Int) (l : List Fld) : Int × List Int × List Int :=
  if l.length > 256 then (3, [], []) else if c = tc ∧ k = tk ∧ n = tn then seqEnd subs.length (seqGo subs l 0 []) else (9, [], [])
def seqM (e : El) (tc : Int) (tk : Bool) (tn : Int) (l : List Fld) : Int × List Int × List Int := seqF e.c e.k e.n e.subs tc tk tn l

theorem flds_at : ∀ {l : List Fld} {ex : List AV} {i : Nat} (hi : i < l.length), (l.flatMap fldCells ++ ex).drop (i * 5) = fldCells l[i] ++ ((l.drop (i + 1)).flatMap fldCells ++ ex)
  | f :: fs, ex, 0, _ => by simp
  | f :: fs, ex, i + 1, hi => by
    have := flds_at (l := fs) (ex := ex) (i := i) (by simpa using hi)
    have h5 : (fldCells f).length = 5 := rfl
    rw [show (i + 1) * 5 = (fldCells f).length + i * 5 by rw [h5]; omega, ← List.drop_drop]
    simpa using this

/-- A slice of fields, as data. -/
def FS (l : List Fld) (a : AV) : Prop := ∃ nl ex cap, a = .lsl nl 0 (l.flatMap fldCells ++ ex) l.length cap ∧ capOk l.length cap ∧ (nl = true → l = [])

theorem seqGo_nx {subs : List El} : ∀ (l : List Fld) (nx : Nat) (out : List Int), nx ≤ subs.length → (seqGo subs l nx out).2.2.2 ≤ subs.length ∧ ((seqGo subs l nx out).1 = 0 → (seqGo subs l nx out).2.2.1.length = out.length + l.length)
  | [], nx, out, h => by simp [seqGo, h]
  | f :: fs, nx, out, h => by
    simp only [seqGo]
    split
    · rename_i hm
      have hlt : nx < subs.length := by
        unfold fitsAt at hm
        cases hs : subs[nx]? with
        | none => rw [hs] at hm; simp at hm
        | some e => exact (List.getElem?_eq_some_iff.1 hs).1
      have := seqGo_nx fs (nx + 1) (out ++ [(nx : Int)]) hlt
      refine ⟨this.1, fun h => ?_⟩
      rw [this.2 h]; simp; omega
    · split
      · have := seqGo_nx fs nx (out ++ [-1]) h
        refine ⟨this.1, fun h => ?_⟩
        rw [this.2 h]; simp; omega
      · split
        · exact ⟨h, by simp⟩
        · exact ⟨h, by simp⟩

/-- What stands at an index of a row of elements. -/
theorem ElsA.cell {subs : List El} {cs : List AV} (hs : ElsA subs cs) {i : Nat} (hi : i < subs.length) : ∃ c k n bs ss nl1 ex1 cp1 nl2 cs2 cp2 t, subs[i]? = some (.mk c k n bs ss) ∧
    cs.drop (i * 5) = .int .u8 c :: .bool k :: .int .u32 n :: .lsl nl1 0 (bs.map (AV.int .u8) ++ ex1) bs.length cp1 :: .lsl nl2 0 cs2 ss.length cp2 :: t ∧
    ElA (.mk c k n bs ss) [.int .u8 c, .bool k, .int .u32 n, .lsl nl1 0 (bs.map (AV.int .u8) ++ ex1) bs.length cp1, .lsl nl2 0 cs2 ss.length cp2] := by
  obtain ⟨ce, t, hd, hce, _⟩ := hs.at hi
  generalize hsub : subs[i] = es at hce
  obtain ⟨c, k, n, bs, ss⟩ := es
  obtain ⟨nl1, ex1, cp1, nl2, cs2, cp2, rfl, _⟩ := hce.out
  exact ⟨c, k, n, bs, ss, nl1, ex1, cp1, nl2, cs2, cp2, t, by rw [List.getElem?_eq_getElem hi, hsub], by simpa using hd, hce⟩

section
variable {c n : Int} {k nl1 nl2 : Bool} {csa csb : List AV} {la : Nat} {cpa cpb : Option Nat} {subs : List El} {l : List Fld} {nll : Bool} {exl : List AV} {cpl : Option Nat}

abbrev oE (c : Int) (k : Bool) (n : Int) (s t : AV) : Option AObj := some (.cells [.int .u8 c, .bool k, .int .u32 n, s, t] 32 false)
abbrev oF (s : AV) (e : Int) : Option AObj := some (.cells [s, .int .i64 e] 50 false)
abbrev oL (l : List Int) (gr : Bool) : Option AObj := some (.cells (l.map (AV.int .i64)) 3 gr)

theorem loop43 (hs : ElsA subs csb) (hsl : subs.length < 2 ^ 48) (hnl : nl2 = true → subs = []) (hnll : nll = true → l = []) (hll : l.length ≤ 256) (hf : AV) :
    ∀ (x : Nat × Nat × List Int) (kvs : List (Nat × AV)) (σ : St), (x.1 = x.2.2.length ∧ x.1 ≤ l.length ∧ x.2.1 ≤ subs.length ∧ ∃ l2 : List Int, l2.length = l.length ∧ l2.take x.1 = x.2.2 ∧
        kvs = [(3, .ref 0 0), (7, .ref 1 0), (8, .int .i64 x.2.1), (9, .rsl 2 0 x.1 (some l.length)), (27, .lsl nll 0 (l.flatMap fldCells ++ exl) l.length cpl), (28, .int .i64 l.length), (29, .int .i64 x.1)] ∧
        σ = ⟨[oE c k n (.lsl nl1 0 csa la cpa) (.lsl nl2 0 csb subs.length cpb), oF (.lsl true 0 [] 0 (some 0)) 0, oL l2 false], 0⟩) →
      ∃ ae kvs' σ', (∃ (r : Int × List Int × List Int × Nat) (l2 : List Int) (m : Nat), r = seqGo subs (l.drop x.1) x.2.1 x.2.2 ∧ l2.length = l.length ∧
          (if r.1 = 0 then ae = .exit 1 ∧ l2.take m = r.2.2.1 ∧ m = r.2.2.1.length ∧ kvs' = [(3, .ref 0 0), (7, .ref 1 0), (8, .int .i64 r.2.2.2), (9, .rsl 2 0 m (some l.length)), (6, .any)] ∧
            σ' = ⟨[oE c k n (.lsl nl1 0 csa la cpa) (.lsl nl2 0 csb subs.length cpb), oF (.lsl true 0 [] 0 (some 0)) 0, oL l2 false], 0⟩
          else ae = .ret ∧ ∃ nlv, kvs' = [(3, .ref 0 0), (7, .ref 1 0), (8, .int .i64 r.2.2.2), (9, .rsl 2 0 m (some l.length)), (6, .lsl true 0 [] 0 (some 0))] ∧ (nlv = true → r.2.1 = []) ∧
            σ' = ⟨[oE c k n (.lsl nl1 0 csa la cpa) (.lsl nl2 0 csb subs.length cpb), oF (.lsl nlv 0 (r.2.1.map (AV.int .i64)) r.2.1.length (some r.2.1.length)) r.1, oL l2 false], 0⟩)) ∧
        Cd 0 (.loop (bodyL Tryd.f43 1)) (frOf 83 kvs) σ ae (frOf 83 kvs') σ' := by
  refine loop_by (tb := tb_r43) (f := 43) (c := bodyL Tryd.f43 1) (k := 0) (N := 83) (keepN := [3, 7, 8, 9, 27, 28, 29]) (keepX := [3, 7, 8, 9, 6]) env_ok _ _ (fun x => l.length - x.1) ?_
  rintro ⟨i, nx, out⟩ kvs σ ⟨hio, hi, hnx, l2, hl2, ht, rfl, rfl⟩
  simp only at hio hi hnx ht ⊢
  rw [r43]
  refine br_i (fun hlt => ?_) (fun hge => ?_)
  · have hlt : i < l.length := by simpa using hlt
    have hnlf : nll = false := by
      cases nll
      · rfl
      · rw [hnll rfl] at hlt; simp at hlt
    have hdrop : l.drop i = l[i] :: l.drop (i + 1) := List.drop_eq_getElem_cons hlt
    have hcells := flds_at (ex := exl) hlt
    generalize l[i] = f at hdrop hcells
    obtain ⟨fc, fk, fn, fa, fo⟩ := f
    have hwi : IntKind.i64.wrap ((i : Int) + 1) = ((i + 1 : Nat) : Int) := by rw [wrap_small (by omega) (by omega)]; simp
    have hwn : IntKind.i64.wrap ((nx : Int) + 1) = ((nx + 1 : Nat) : Int) := by rw [wrap_small (by omega) (by omega)]; simp
    have hput : ∀ v : Int, putL (l2.map (AV.int .i64)) (0 + i * 1) [.int .i64 v] = (l2.set i v).map (AV.int .i64) := fun v => by
      rw [show 0 + i * 1 = i by omega]; exact putL_map (by omega)
    -- the ways on
    have next : ∀ (v : Int) (nx' : Nat), nx' ≤ subs.length → seqGo subs (l.drop i) nx out = seqGo subs (l.drop (i + 1)) nx' (out ++ [v]) →
        ∃ y : Nat × Nat × List Int, l.length - y.1 < l.length - i ∧ (y.1 = y.2.2.length ∧ y.1 ≤ l.length ∧ y.2.1 ≤ subs.length ∧ ∃ l2' : List Int, l2'.length = l.length ∧ l2'.take y.1 = y.2.2 ∧
          [(3, AV.ref 0 0), (7, .ref 1 0), (8, .int .i64 (nx' : Int)), (9, .rsl 2 0 (i + 1) (some l.length)), (27, .lsl nll 0 (l.flatMap fldCells ++ exl) l.length cpl), (28, .int .i64 l.length), (29, .int .i64 ((i + 1 : Nat) : Int))] =
            [(3, .ref 0 0), (7, .ref 1 0), (8, .int .i64 y.2.1), (9, .rsl 2 0 y.1 (some l.length)), (27, .lsl nll 0 (l.flatMap fldCells ++ exl) l.length cpl), (28, .int .i64 l.length), (29, .int .i64 y.1)] ∧
          (⟨[oE c k n (.lsl nl1 0 csa la cpa) (.lsl nl2 0 csb subs.length cpb), oF (.lsl true 0 [] 0 (some 0)) 0, oL (l2.set i v) false], 0⟩ : St) =
            ⟨[oE c k n (.lsl nl1 0 csa la cpa) (.lsl nl2 0 csb subs.length cpb), oF (.lsl true 0 [] 0 (some 0)) 0, oL l2' false], 0⟩) ∧
          seqGo subs (l.drop i) nx out = seqGo subs (l.drop y.1) y.2.1 y.2.2 := by
      intro v nx' h1 h2
      refine ⟨(i + 1, nx', out ++ [v]), by simp only; omega, ⟨by simp [hio], by simp only; omega, h1, l2.set i v, by simp [hl2], ?_, rfl, rfl⟩, h2⟩
      simp only
      rw [take_set (by omega), ht]
    refine ⟨hnlf, by omega, by omega, fc, fk, fn, fa, fo, _, by rw [Int.toNat_natCast, hcells]; rfl, ?_⟩
    have err : ∀ (er : Int) (path : List Int) (nlv : Bool), er ≠ 0 → (nlv = true → path = []) → seqGo subs (l.drop i) nx out = (er, path, out, nx) →
        ∃ (r : Int × List Int × List Int × Nat) (l2' : List Int) (m : Nat), r = seqGo subs (l.drop i) nx out ∧ l2'.length = l.length ∧
          (if r.1 = 0 then (AExit.ret = .exit 1) ∧ l2'.take m = r.2.2.1 ∧ m = r.2.2.1.length ∧ [(3, AV.ref 0 0), (7, .ref 1 0), (8, .int .i64 (nx : Int)), (9, .rsl 2 0 i (some l.length)), (6, .lsl true 0 [] 0 (some 0))] = [(3, .ref 0 0), (7, .ref 1 0), (8, .int .i64 r.2.2.2), (9, .rsl 2 0 m (some l.length)), (6, .any)] ∧
            (⟨[oE c k n (.lsl nl1 0 csa la cpa) (.lsl nl2 0 csb subs.length cpb), oF (.lsl nlv 0 (path.map (AV.int .i64)) path.length (some path.length)) er, oL l2 false], 0⟩ : St) = ⟨[oE c k n (.lsl nl1 0 csa la cpa) (.lsl nl2 0 csb subs.length cpb), oF (.lsl true 0 [] 0 (some 0)) 0, oL l2' false], 0⟩
          else (AExit.ret = .ret) ∧ ∃ nlv', [(3, AV.ref 0 0), (7, .ref 1 0), (8, .int .i64 (nx : Int)), (9, .rsl 2 0 i (some l.length)), (6, .lsl true 0 [] 0 (some 0))] = [(3, .ref 0 0), (7, .ref 1 0), (8, .int .i64 r.2.2.2), (9, .rsl 2 0 m (some l.length)), (6, .lsl true 0 [] 0 (some 0))] ∧ (nlv' = true → r.2.1 = []) ∧
            (⟨[oE c k n (.lsl nl1 0 csa la cpa) (.lsl nl2 0 csb subs.length cpb), oF (.lsl nlv 0 (path.map (AV.int .i64)) path.length (some path.length)) er, oL l2 false], 0⟩ : St) = ⟨[oE c k n (.lsl nl1 0 csa la cpa) (.lsl nl2 0 csb subs.length cpb), oF (.lsl nlv' 0 (r.2.1.map (AV.int .i64)) r.2.1.length (some r.2.1.length)) r.1, oL l2' false], 0⟩) := by
      intro er path nlv h1 h2 h3
      refine ⟨_, l2, i, h3.symm, hl2, ?_⟩
      rw [if_neg h1]
      exact ⟨rfl, nlv, rfl, h2, rfl⟩
    refine br_i (fun hn => ?_) (fun hn => ?_)
    · have hn : nx < subs.length := by simpa using hn
      obtain ⟨c', k', n', bs', ss', m1, ex1, cp1, m2, cs2, cp2, t, hget, hd, he⟩ := hs.cell hn
      have hn2 : nl2 = false := by
        cases nl2
        · rfl
        · rw [hnl rfl] at hn; simp at hn
      refine ⟨hn2, by omega, by omega, _, _, _, _, _, _, _, _, _, _, _, _, by simpa using hd, ?_⟩
      have step : ∀ b, fits ⟨fc, fk, fn, fa, fo⟩ (.mk c' k' n' bs' ss') = b → seqGo subs (l.drop i) nx out = if b = true then seqGo subs (l.drop (i + 1)) (nx + 1) (out ++ [(nx : Int)]) else if fo = true then seqGo subs (l.drop (i + 1)) nx (out ++ [-1]) else (9, [(nx : Int)], out, nx) := by
        intro b hb
        rw [hdrop]
        simp only [seqGo, fitsAt, hget, hb]
        have : ¬ nx = subs.length := by omega
        simp only [this, if_false]
      have take : ∀ hfit : fits ⟨fc, fk, fn, fa, fo⟩ (.mk c' k' n' bs' ss') = true, seqGo subs (l.drop i) nx out = seqGo subs (l.drop (i + 1)) (nx + 1) (out ++ [(nx : Int)]) := fun hfit => by rw [step _ hfit]; rfl
      refine br_i (fun ha => ?_) (fun ha => ?_)
      · rw [hwi, hwn, hput]
        refine ⟨by omega, by omega, by omega, by simp [hl2]; omega, tagLeL_map _, ?_⟩
        obtain ⟨y, h1, h2, h3⟩ := next nx (nx + 1) hn (take (by simp [fits, ha]))
        exact ⟨y, h1, h2, fun ae kvs σ ⟨r, l2', m, hr, h4⟩ => ⟨r, l2', m, by rw [h3]; exact hr, h4⟩⟩
      · refine br_i (fun hm => ?_) (fun hm => ?_)
        · rw [hwi, hwn, hput]
          refine ⟨by omega, by omega, by omega, by simp [hl2]; omega, tagLeL_map _, ?_⟩
          obtain ⟨y, h1, h2, h3⟩ := next nx (nx + 1) hn (take (by simp only [fits, ha, El.c, El.k, El.n, hm]; rfl))
          exact ⟨y, h1, h2, fun ae kvs σ ⟨r, l2', m, hr, h4⟩ => ⟨r, l2', m, by rw [h3]; exact hr, h4⟩⟩
        · have hst := step false (by simp only [fits, ha, El.c, El.k, El.n, hm]; rfl)
          simp only [Bool.false_eq_true, if_false] at hst
          refine br_i (fun ho => ?_) (fun ho => ?_)
          · rw [hwi, hput]
            refine ⟨by omega, by omega, by omega, by simp [hl2]; omega, tagLeL_map _, ?_⟩
            obtain ⟨y, h1, h2, h3⟩ := next (-1) nx hnx (by rw [hst, if_pos ho])
            exact ⟨y, h1, h2, fun ae kvs σ ⟨r, l2', m, hr, h4⟩ => ⟨r, l2', m, by rw [h3]; exact hr, h4⟩⟩
          · refine br_i (fun hq => ?_) (fun hq => ?_)
            · have : (nx : Int) = subs.length := by simpa using hq
              omega
            · exact ⟨rfl, by omega, by omega, by omega, by omega, tagLeL_map _, err 9 [(nx : Int)] false (by omega) (by simp) (by rw [hst, ho]; rfl)⟩
    · have hn : nx = subs.length := by
        have : ¬ nx < subs.length := by simpa using hn
        omega
      have hst : seqGo subs (l.drop i) nx out = if fo = true then seqGo subs (l.drop (i + 1)) nx (out ++ [-1]) else (7, [], out, nx) := by
        rw [hdrop]
        have : subs[nx]? = none := by rw [List.getElem?_eq_none_iff]; omega
        simp only [seqGo, fitsAt, this]
        simp [hn]
      refine br_i (fun ho => ?_) (fun ho => ?_)
      · rw [hwi, hput]
        refine ⟨by omega, by omega, by omega, by simp [hl2]; omega, tagLeL_map _, ?_⟩
        obtain ⟨y, h1, h2, h3⟩ := next (-1) nx hnx (by rw [hst, if_pos ho])
        exact ⟨y, h1, h2, fun ae kvs σ ⟨r, l2', m, hr, h4⟩ => ⟨r, l2', m, by rw [h3]; exact hr, h4⟩⟩
      · refine br_i (fun hq => ?_) (fun hq => ?_)
        · exact ⟨by omega, by omega, by omega, by omega, tagLeL_map _, err 7 [] true (by omega) (by simp) (by rw [hst, ho]; rfl)⟩
        · have : ¬ (nx : Int) = subs.length := by simpa using hq
          omega
  · have hge : i = l.length := by
      have : ¬ i < l.length := by simpa using hge
      omega
    refine ⟨tagLeL_map _, _, l2, i, rfl, hl2, ?_⟩
    rw [hge, List.drop_length]
    simp only [seqGo, if_true]
    exact ⟨trivial, by rw [← hge]; exact ht, by rw [← hge]; exact hio, trivial, trivial⟩
end

/-- What a Sequence comes to: the indices, and a fault; 'ex': without spare capacity. -/
def SeqR (f : FuncId) (args : List AV) (ex : Bool) (r : Int × List Int × List Int) : Prop :=
  ∃ vo nlv cp, Sm f args (.tup [vo, .agg [.lsl nlv 0 (r.2.1.map (AV.int .i64)) r.2.1.length cp, .int .i64 r.1]]) ∧ capOk r.2.1.length cp ∧ (ex = true → cp = some r.2.1.length) ∧
      (nlv = true → r.2.1 = []) ∧ (r.1 = 0 → SI .i64 r.2.2 vo) ∧ ∃ nl cs len cap, vo = .lsl nl 0 cs len cap

theorem capOk_some {n : Nat} : capOk n (some n) := fun c h => by cases h; exact Nat.le_refl _
theorem capOk_none {n : Nat} : capOk n none := fun c h => by cases h

theorem sum43 {e : El} {cells : List AV} (h : ElA e cells) (tc : Int) (tk : Bool) (tn : Int) {l : List Fld} {a : AV} (ha : FS l a) :
    SeqR 43 [.agg cells, .agg [.int .u8 tc, .bool tk, .int .u32 tn], a] true (seqM e tc tk tn l) := by
  obtain ⟨c, k, n, bs, subs⟩ := e
  obtain ⟨nl1, ex1, cp1, nl2, cs2, cp2, rfl, hc1, hl1, hn1, hc2, hl2, hn2, hs⟩ := h.out
  obtain ⟨nll, exl, cpl, rfl, hcl, hnll⟩ := ha
  show SeqR _ _ _ (seqF c k n subs tc tk tn l)
  unfold seqF
  by_cases h256 : l.length > 256
  · rw [if_pos h256]
    refine ⟨.lsl true 0 [] 0 (some 0), true, some 0, sum_vc (vc43 ..) (br_t (by simp; omega) ⟨by omega, by omega, by omega, by omega, rfl⟩), capOk_some, fun _ => rfl, by simp, by simp, _, _, _, _, rfl⟩
  rw [if_neg h256]
  have hb256 : decide ((l.length : Int) > 256) = false := by simp; omega
  by_cases ht : c = tc ∧ k = tk ∧ n = tn
  · rw [if_pos ht]
    obtain ⟨ae, kvs', σ', ⟨r, l2, m, hr, hl2', hq⟩, hcd⟩ := loop43 (c := c) (n := n) (k := k) (nl1 := nl1) (nl2 := nl2) (csa := bs.map (AV.int .u8) ++ ex1) (la := bs.length) (cpa := cp1) (cpb := cp2) (exl := exl) (cpl := cpl) hs hl2 hn2 hnll (by omega) .nilp (0, 0, []) _ _
      ⟨rfl, by simp, by simp, List.replicate l.length 0, by simp, by simp, rfl, rfl⟩
    simp only [List.drop_zero] at hr
    rw [← hr]
    unfold seqEnd
    have hnx := seqGo_nx (subs := subs) l 0 [] (by omega)
    rw [← hr] at hnx
    have hmr : madeRow [.int .i64 0] (l.length * 1) = (List.replicate l.length (0 : Int)).map (AV.int .i64) := by rw [madeRow_zero, Nat.mul_one]
    have htag : (!(c == tc && (k == tk && n == tn))) = false := by simp [ht.1, ht.2.1, ht.2.2]
    by_cases hr0 : r.1 = 0
    · rw [if_pos hr0] at hq
      obtain ⟨rfl, htk, hm, rfl, rfl⟩ := hq
      rw [if_pos hr0]
      have hlen := hnx.2 hr0
      simp at hlen
      by_cases hlt : r.2.2.2 < subs.length
      · rw [if_pos hlt]
        refine ⟨.lsl true 0 [] 0 (some 0), false, some 1, sum_vc (vc43 ..) (br_f hb256 (br_f htag ⟨by omega, by omega, by omega, by omega, by rw [hmr]; exact tagLeL_map _, r.2.2.2, m, l.length, l2.map (AV.int .i64), .inl ⟨?_, br_t (by simp; omega) ⟨rfl, by omega, by omega, by omega, by omega, rfl⟩⟩⟩)), capOk_some, fun _ => rfl, by simp, by simp, _, _, _, _, rfl⟩
        rw [hmr]; exact hcd
      · rw [if_neg hlt]
        refine ⟨.lsl false 0 (l2.map (AV.int .i64)) m (some l.length), true, some 0, sum_vc (vc43 ..) (br_f hb256 (br_f htag ⟨by omega, by omega, by omega, by omega, by rw [hmr]; exact tagLeL_map _, r.2.2.2, m, l.length, l2.map (AV.int .i64), .inl ⟨?_, br_f (by simp; omega) ⟨tagLeL_map _, rfl⟩⟩⟩)), capOk_some, fun _ => rfl, by simp, fun _ => ?_, _, _, _, _, rfl⟩
        · rw [hmr]; exact hcd
        · show SI .i64 r.2.2.1 _
          refine ⟨false, (l2.drop m).map (AV.int .i64), some l.length, ?_, ?_, ?_, by simp⟩
          · have : r.2.2.1 ++ l2.drop m = l2 := by rw [← htk]; simp
            rw [← List.map_append, this, hm]
          · intro c hc; cases hc; omega
          · omega
    · rw [if_neg hr0] at hq
      obtain ⟨rfl, nlv, rfl, hnlv, rfl⟩ := hq
      rw [if_neg hr0]
      refine ⟨.lsl true 0 [] 0 (some 0), nlv, some r.2.1.length, sum_vc (vc43 ..) (br_f hb256 (br_f htag ⟨by omega, by omega, by omega, by omega, by rw [hmr]; exact tagLeL_map _, r.2.2.2, m, l.length, l2.map (AV.int .i64), .inr ⟨nlv, _, _, _, _, ?_, rfl⟩⟩)), capOk_some, fun _ => rfl, hnlv, fun h => absurd h hr0, _, _, _, _, rfl⟩
      rw [hmr]; exact hcd
  · rw [if_neg ht]
    refine ⟨.lsl true 0 [] 0 (some 0), true, some 0, sum_vc (vc43 ..) (br_f hb256 (br_t ?_ ⟨by omega, by omega, by omega, by omega, rfl⟩)), capOk_some, fun _ => rfl, by simp, by simp, _, _, _, _, rfl⟩
    simp only [Bool.not_eq_true', Bool.and_eq_false_imp, beq_iff_eq, beq_eq_false_iff_ne]
    intro h1 h2 h3
    exact ht ⟨h1, h2, h3⟩

/-- A fault: its path as data. -/
def FA (path : List Int) (err : Int) (ex : Bool) (a : AV) : Prop := ∃ nl xs cp, a = .agg [.lsl nl 0 (path.map (AV.int .i64) ++ xs) path.length cp, .int .i64 err] ∧ capOk path.length cp ∧ (ex = true → cp = some path.length) ∧ (nl = true → path = []) ∧ path.length < 2 ^ 40

def explM (e : El) (m : Int) : Int × List Int :=
  if e.c = 2 ∧ e.k = true ∧ e.n = m then (if e.subs.length = 0 then (7, []) else if e.subs.length > 1 then (8, [1]) else (0, [])) else (9, [])

theorem sum46 {e : El} {cells : List AV} (h : ElA e cells) (m : Int) : ∃ a, FA (explM e m).2 (explM e m).1 true a ∧ Sm 46 [.agg cells, .int .u32 m] a := by
  obtain ⟨c, k, n, bs, subs⟩ := e
  obtain ⟨nl1, ex1, cp1, nl2, cs2, cp2, rfl, -⟩ := h.out
  refine sum_ex _ (vc46 ..) ?_
  show br _ _ _
  have hnil : ∀ er : Int, FA [] er true (.agg [.lsl true 0 [] 0 (some 0), .int .i64 er]) := fun er => ⟨true, [], some 0, rfl, capOk_some, fun _ => rfl, fun _ => rfl, by simp⟩
  refine br_i (fun h1 => ?_) (fun h1 => ?_)
  · refine ⟨by omega, by omega, by omega, by omega, _, rfl, ?_⟩
    have : explM (.mk c k n bs subs) m = (9, []) := by
      unfold explM
      rw [if_neg]
      simp only [El.c, El.k, El.n]
      rintro ⟨rfl, rfl, rfl⟩
      simp at h1
    rw [this]; exact hnil 9
  · have h1 : c = 2 ∧ k = true ∧ n = m := by simpa using h1
    have e1 : explM (.mk c k n bs subs) m = if subs.length = 0 then (7, []) else if subs.length > 1 then (8, [1]) else (0, []) := by
      unfold explM
      rw [if_pos (by simpa only [El.c, El.k, El.n] using h1)]
      rfl
    rw [e1]
    refine br_i (fun h2 => ?_) (fun h2 => ?_)
    · have h2 : subs.length = 0 := by have := beq_iff_eq.1 h2; omega
      rw [if_pos h2]
      exact ⟨by omega, by omega, by omega, by omega, _, rfl, hnil 7⟩
    · have h2 : ¬ subs.length = 0 := by have := beq_eq_false_iff_ne.1 h2; omega
      rw [if_neg h2]
      refine br_i (fun h3 => ?_) (fun h3 => ?_)
      · have h3 : subs.length > 1 := by have := of_decide_eq_true h3; omega
        rw [if_pos h3]
        exact ⟨by omega, by omega, by omega, by omega, _, rfl, false, [], some 1, rfl, capOk_some, fun _ => rfl, by simp, by simp⟩
      · have h3 : ¬ subs.length > 1 := by have := of_decide_eq_false h3; omega
        rw [if_neg h3]
        exact ⟨_, rfl, hnil 0⟩

theorem sum41 {e : El} {cells : List AV} (h : ElA e cells) (m : Int) : ∃ a, FA (explM e m).2 (explM e m).1 false a ∧ Sm 41 [.agg cells, .int .u32 m] a := by
  obtain ⟨c, k, n, bs, subs⟩ := e
  obtain ⟨nl1, ex1, cp1, nl2, cs2, cp2, rfl, -⟩ := h.out
  refine sum_ex _ (vc41 ..) ?_
  have hnil : ∀ er : Int, FA [] er false (.agg [.lsl true 0 [] 0 (some 0), .int .i64 er]) := fun er => ⟨true, [], some 0, rfl, capOk_some, fun _ => rfl, fun _ => rfl, by simp⟩
  have h9 : ¬ (c = 2 ∧ k = true ∧ n = m) → ∃ v, AOut.ret (.agg [.lsl true 0 [] 0 (some 0), .int .i64 9]) = .ret v ∧ FA (explM (.mk c k n bs subs) m).2 (explM (.mk c k n bs subs) m).1 false v := by
    intro h
    have : explM (.mk c k n bs subs) m = (9, []) := by
      unfold explM
      rw [if_neg]
      simpa only [El.c, El.k, El.n] using h
    rw [this]; exact ⟨_, rfl, hnil 9⟩
  refine br_i (fun h1 => h9 ?_) (fun h1 => br_i (fun h2 => h9 ?_) (fun h2 => br_i (fun h3 => h9 ?_) (fun h3 => ?_)))
  · rintro ⟨rfl, -, -⟩; simp at h1
  · rintro ⟨-, rfl, -⟩; simp at h2
  · rintro ⟨-, -, rfl⟩; simp at h3
  · have h1 : c = 2 ∧ k = true ∧ n = m := ⟨by simpa using h1, by simpa using h2, by simpa using h3⟩
    have e1 : explM (.mk c k n bs subs) m = if subs.length = 0 then (7, []) else if subs.length > 1 then (8, [1]) else (0, []) := by
      unfold explM
      rw [if_pos (by simpa only [El.c, El.k, El.n] using h1)]
      rfl
    rw [e1]
    refine br_i (fun h2 => ?_) (fun h2 => ?_)
    · have h2 : subs.length = 0 := by have := beq_iff_eq.1 h2; omega
      rw [if_pos h2]
      exact ⟨_, rfl, hnil 7⟩
    · have h2 : ¬ subs.length = 0 := by have := beq_eq_false_iff_ne.1 h2; omega
      rw [if_neg h2]
      refine br_i (fun h3 => ?_) (fun h3 => ?_)
      · have h3 : subs.length > 1 := by have := of_decide_eq_true h3; omega
        rw [if_pos h3]
        exact ⟨_, rfl, false, [], none, rfl, capOk_none, by simp, by simp, by simp⟩
      · have h3 : ¬ subs.length > 1 := by have := of_decide_eq_false h3; omega
        rw [if_neg h3]
        exact ⟨_, rfl, hnil 0⟩

/-- Under. -/
def underM (i : Int) (path : List Int) (err : Int) : List Int × Int := if err = 0 then ([], 0) else (i :: path, err)

theorem sum47 (i : Int) {path : List Int} {err : Int} {ex : Bool} {a : AV} (h : FA path err ex a) (hl : path.length < 2 ^ 39) : ∃ b, FA (underM i path err).1 (underM i path err).2 true b ∧ Sm 47 [.int .i64 i, a] b := by
  obtain ⟨nl, xs, cp, rfl, h1, -, h2, -⟩ := h
  refine sum_ex _ (vc47 ..) ?_
  refine br_i (fun h3 => ?_) (fun h3 => ?_)
  · have h3 : err = 0 := by simpa using h3
    unfold underM
    rw [if_pos h3]
    exact ⟨_, rfl, true, [], some 0, rfl, capOk_some, fun _ => rfl, fun _ => rfl, by simp⟩
  · have h3 : ¬ err = 0 := by simpa using h3
    unfold underM
    rw [if_neg h3]
    have hw : IntKind.i64.wrap ((1 + path.length : Nat) : Int) = ((1 + path.length : Nat) : Int) := wrap_small (by omega) (by omega)
    have ht : Int.toNat ((1 + path.length : Nat) : Int) = 1 + path.length := Int.toNat_natCast _
    have hm : Min.min path.length (1 + path.length - 1) * 1 = path.length := by omega
    have e1 : putL (madeRow [.int .i64 0] ((1 + path.length) * 1)) 0 [.int .i64 i] = (i :: List.replicate path.length 0).map (AV.int .i64) := by
      rw [madeRow_zero, putL_map (by simp; omega), Nat.mul_one, Nat.add_comm, List.replicate_succ]; rfl
    have hif : (if 1 + path.length = 1 then 0 else 1) + Min.min path.length (1 + path.length - 1) * 1 ≤ 1 + path.length := by
      rw [hm]
      by_cases hp : path.length = 0
      · rw [if_pos (by omega)]; omega
      · rw [if_neg (by omega)]; omega
    have e2 : putL ((i :: List.replicate path.length 0).map (AV.int .i64)) (if 1 + path.length = 1 then 0 else 1) (List.take (Min.min path.length (1 + path.length - 1) * 1) (path.map (AV.int .i64) ++ xs)) = (i :: path).map (AV.int .i64) := by
      rw [hm]
      have : List.take path.length (path.map (AV.int .i64) ++ xs) = path.map (AV.int .i64) := by
        exact List.take_left' (List.length_map _)
      rw [this]
      unfold putL
      by_cases hp : path.length = 0
      · have : path = [] := List.length_eq_zero_iff.1 hp
        subst this
        simp
      · rw [if_neg (by omega)]
        simp
        omega
    rw [hw, ht]
    refine ⟨by omega, by omega, by omega, by omega, by omega, by omega, by rw [madeRow_zero]; simp, by omega, by omega, by simp, ?_, ?_, _, rfl, ?_⟩
    · rw [e1]; simp only [List.length_map, List.length_cons, List.length_replicate]; omega
    · rw [e1, e2]; exact tagLeL_map _
    · rw [e1, e2, List.drop_zero]
      refine ⟨false, [], some (1 + path.length), ?_, ?_, ?_, by simp, ?_⟩
      · simp [Nat.add_comm]
      · intro c hc; cases hc; simp; omega
      · intro _; simp [Nat.add_comm]
      · simp; omega

end Go.Vid
