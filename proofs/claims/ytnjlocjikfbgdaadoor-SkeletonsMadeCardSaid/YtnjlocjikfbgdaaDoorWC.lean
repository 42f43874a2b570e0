/-
vidimusref12.Sequence: a summary.
-/
import Derived.Test.YtnjlocjikfbgdaaDoorWB
set_option linter.all false
namespace Go.Vid
open Go.Proofs
set_option maxRecDepth 100000
set_option linter.unusedVariables false
section
open AExit AOut AV IntKind
abbrev tb_r38 : List (FuncId × Sc) := [(38, { ops := [(11, [(3, Kd.wi)]), (14, [(2, Kd.wi)]), (10, [(5, Kd.b), (8, Kd.w), (11, Kd.b), (14, Kd.w), (20, Kd.w), (23, Kd.w)]), (13, [(2, Kd.w)])], lax := [3] }), (59, { inl := true })]
theorem r38 (nx i ec en fe : Int) (nll ek nle1 nle2 nlf : Bool) (lenl mo lene1 lene2 lenf : Nat) (csl cse1 cse2 csf cso : List AV) (cpl cpe1 cpe2 cpf : Option Nat) (K : AExit → List (Nat × AV) → St → Prop) : (roundT Tryd.prog env tb_r38 38 (bodyL Tryd.f38 0) 0 83 [2, 3, 7, 8, 9, 10] [3, 7, 8, 9, 6] [(2, lsl nll 0 csl lenl cpl), (3, ref 0 0), (7, ref 1 0), (8, rsl 2 0 mo none), (9, int i64 nx), (10, int i64 i)] ⟨[some (AObj.cells [int u8 ec, AV.bool ek, int u32 en, lsl nle1 0 cse1 lene1 cpe1, lsl nle2 0 cse2 lene2 cpe2] 32 false), some (AObj.cells [lsl nlf 0 csf lenf cpf, int i64 fe] 50 false), some (AObj.cells cso 3 true)], 0⟩ K) =
    (br (decide (i < (↑lenl : Int))) (br (decide (nx < (↑lene2 : Int))) (nll = false ∧ (0 : Int) ≤ i ∧ i < (↑lenl : Int) ∧ ∃ z1 b2 z3 b4 b5 cs6, List.drop (Int.toNat i * 5) csl = int u8 z1 :: AV.bool b2 :: int u32 z3 :: AV.bool b4 :: AV.bool b5 :: cs6 ∧ br b4 (1 ≤ 1 ∧ 1 ≠ 0 ∧ List.length cso = mo * 1 ∧ (mo + 1) * 8 ≤ 70368744177664 ∧ mo + 1 ≤ 70368744177664 ∧ tagLeL 0 (cso ++ [int i64 nx]) = true ∧ K normal [(2, lsl nll 0 csl lenl cpl), (3, ref 0 0), (7, ref 1 0), (8, rsl 2 0 (mo + 1) none), (9, int i64 (wrap i64 (nx + (1 : Int)))), (10, int i64 (wrap i64 (i + (1 : Int))))] ⟨[some (AObj.cells [int u8 ec, AV.bool ek, int u32 en, lsl nle1 0 cse1 lene1 cpe1, lsl nle2 0 cse2 lene2 cpe2] 32 false), some (AObj.cells [lsl nlf 0 csf lenf cpf, int i64 fe] 50 false), some (AObj.cells (cso ++ [int i64 nx]) 3 true)], 0⟩) (nll = false ∧ (0 : Int) ≤ i ∧ i < (↑lenl : Int) ∧ ∃ z7 b8 z9 b10 b11 cs12, List.drop (Int.toNat i * 5) csl = int u8 z7 :: AV.bool b8 :: int u32 z9 :: AV.bool b10 :: AV.bool b11 :: cs12 ∧ nle2 = false ∧ (0 : Int) ≤ nx ∧ nx < (↑lene2 : Int) ∧ ∃ z13 b14 z15 b16 cs17 n18 cp19 b20 cs21 n22 cp23 cs24, List.drop (Int.toNat nx * 5) cse2 = int u8 z13 :: AV.bool b14 :: int u32 z15 :: lsl b16 0 cs17 n18 cp19 :: lsl b20 0 cs21 n22 cp23 :: cs24 ∧ br (z7 == z13 && (b8 == b14 && z9 == z15)) (1 ≤ 1 ∧ 1 ≠ 0 ∧ List.length cso = mo * 1 ∧ (mo + 1) * 8 ≤ 70368744177664 ∧ mo + 1 ≤ 70368744177664 ∧ tagLeL 0 (cso ++ [int i64 nx]) = true ∧ K normal [(2, lsl nll 0 csl lenl cpl), (3, ref 0 0), (7, ref 1 0), (8, rsl 2 0 (mo + 1) none), (9, int i64 (wrap i64 (nx + (1 : Int)))), (10, int i64 (wrap i64 (i + (1 : Int))))] ⟨[some (AObj.cells [int u8 ec, AV.bool ek, int u32 en, lsl nle1 0 cse1 lene1 cpe1, lsl nle2 0 cse2 lene2 cpe2] 32 false), some (AObj.cells [lsl nlf 0 csf lenf cpf, int i64 fe] 50 false), some (AObj.cells (cso ++ [int i64 nx]) 3 true)], 0⟩) (nll = false ∧ (0 : Int) ≤ i ∧ i < (↑lenl : Int) ∧ ∃ z25 b26 z27 b28 b29 cs30, List.drop (Int.toNat i * 5) csl = int u8 z25 :: AV.bool b26 :: int u32 z27 :: AV.bool b28 :: AV.bool b29 :: cs30 ∧ br b29 (1 ≤ 1 ∧ 1 ≠ 0 ∧ List.length cso = mo * 1 ∧ (mo + 1) * 8 ≤ 70368744177664 ∧ mo + 1 ≤ 70368744177664 ∧ tagLeL 0 (cso ++ [int i64 (-1)]) = true ∧ K normal [(2, lsl nll 0 csl lenl cpl), (3, ref 0 0), (7, ref 1 0), (8, rsl 2 0 (mo + 1) none), (9, int i64 nx), (10, int i64 (wrap i64 (i + (1 : Int))))] ⟨[some (AObj.cells [int u8 ec, AV.bool ek, int u32 en, lsl nle1 0 cse1 lene1 cpe1, lsl nle2 0 cse2 lene2 cpe2] 32 false), some (AObj.cells [lsl nlf 0 csf lenf cpf, int i64 fe] 50 false), some (AObj.cells (cso ++ [int i64 (-1)]) 3 true)], 0⟩) (br (nx == (↑lene2 : Int)) (tagLeL 0 cso = true ∧ K AExit.ret [(3, ref 0 0), (7, ref 1 0), (8, rsl 2 0 mo none), (9, int i64 nx), (6, lsl true 0 [] 0 (some 0))] ⟨[some (AObj.cells [int u8 ec, AV.bool ek, int u32 en, lsl nle1 0 cse1 lene1 cpe1, lsl nle2 0 cse2 lene2 cpe2] 32 false), some (AObj.cells [lsl true 0 [] 0 (some 0), int i64 7] 50 false), some (AObj.cells cso 3 true)], 0⟩) (br (decide (nx ≥ (0 : Int))) (tagLeL 0 cso = true ∧ K AExit.ret [(3, ref 0 0), (7, ref 1 0), (8, rsl 2 0 mo none), (9, int i64 nx), (6, lsl true 0 [] 0 (some 0))] ⟨[some (AObj.cells [int u8 ec, AV.bool ek, int u32 en, lsl nle1 0 cse1 lene1 cpe1, lsl nle2 0 cse2 lene2 cpe2] 32 false), some (AObj.cells [lsl false 0 [int i64 nx] 1 none, int i64 9] 50 false), some (AObj.cells cso 3 true)], 0⟩) (tagLeL 0 cso = true ∧ K AExit.ret [(3, ref 0 0), (7, ref 1 0), (8, rsl 2 0 mo none), (9, int i64 nx), (6, lsl true 0 [] 0 (some 0))] ⟨[some (AObj.cells [int u8 ec, AV.bool ek, int u32 en, lsl nle1 0 cse1 lene1 cpe1, lsl nle2 0 cse2 lene2 cpe2] 32 false), some (AObj.cells [lsl true 0 [] 0 (some 0), int i64 9] 50 false), some (AObj.cells cso 3 true)], 0⟩)))))) (nll = false ∧ (0 : Int) ≤ i ∧ i < (↑lenl : Int) ∧ ∃ z31 b32 z33 b34 b35 cs36, List.drop (Int.toNat i * 5) csl = int u8 z31 :: AV.bool b32 :: int u32 z33 :: AV.bool b34 :: AV.bool b35 :: cs36 ∧ br b35 (1 ≤ 1 ∧ 1 ≠ 0 ∧ List.length cso = mo * 1 ∧ (mo + 1) * 8 ≤ 70368744177664 ∧ mo + 1 ≤ 70368744177664 ∧ tagLeL 0 (cso ++ [int i64 (-1)]) = true ∧ K normal [(2, lsl nll 0 csl lenl cpl), (3, ref 0 0), (7, ref 1 0), (8, rsl 2 0 (mo + 1) none), (9, int i64 nx), (10, int i64 (wrap i64 (i + (1 : Int))))] ⟨[some (AObj.cells [int u8 ec, AV.bool ek, int u32 en, lsl nle1 0 cse1 lene1 cpe1, lsl nle2 0 cse2 lene2 cpe2] 32 false), some (AObj.cells [lsl nlf 0 csf lenf cpf, int i64 fe] 50 false), some (AObj.cells (cso ++ [int i64 (-1)]) 3 true)], 0⟩) (br (nx == (↑lene2 : Int)) (tagLeL 0 cso = true ∧ K AExit.ret [(3, ref 0 0), (7, ref 1 0), (8, rsl 2 0 mo none), (9, int i64 nx), (6, lsl true 0 [] 0 (some 0))] ⟨[some (AObj.cells [int u8 ec, AV.bool ek, int u32 en, lsl nle1 0 cse1 lene1 cpe1, lsl nle2 0 cse2 lene2 cpe2] 32 false), some (AObj.cells [lsl true 0 [] 0 (some 0), int i64 7] 50 false), some (AObj.cells cso 3 true)], 0⟩) (br (decide (nx ≥ (0 : Int))) (tagLeL 0 cso = true ∧ K AExit.ret [(3, ref 0 0), (7, ref 1 0), (8, rsl 2 0 mo none), (9, int i64 nx), (6, lsl true 0 [] 0 (some 0))] ⟨[some (AObj.cells [int u8 ec, AV.bool ek, int u32 en, lsl nle1 0 cse1 lene1 cpe1, lsl nle2 0 cse2 lene2 cpe2] 32 false), some (AObj.cells [lsl false 0 [int i64 nx] 1 none, int i64 9] 50 false), some (AObj.cells cso 3 true)], 0⟩) (tagLeL 0 cso = true ∧ K AExit.ret [(3, ref 0 0), (7, ref 1 0), (8, rsl 2 0 mo none), (9, int i64 nx), (6, lsl true 0 [] 0 (some 0))] ⟨[some (AObj.cells [int u8 ec, AV.bool ek, int u32 en, lsl nle1 0 cse1 lene1 cpe1, lsl nle2 0 cse2 lene2 cpe2] 32 false), some (AObj.cells [lsl true 0 [] 0 (some 0), int i64 9] 50 false), some (AObj.cells cso 3 true)], 0⟩))))) (tagLeL 0 cso = true ∧ K (exit 0) [(3, ref 0 0), (7, ref 1 0), (8, rsl 2 0 mo none), (9, int i64 nx), (6, any)] ⟨[some (AObj.cells [int u8 ec, AV.bool ek, int u32 en, lsl nle1 0 cse1 lene1 cpe1, lsl nle2 0 cse2 lene2 cpe2] 32 false), some (AObj.cells [lsl nlf 0 csf lenf cpf, int i64 fe] 50 false), some (AObj.cells cso 3 true)], 0⟩)) := by kernel_rfl
abbrev tb_r38n : List (FuncId × Sc) := [(38, { ops := [(11, [(3, Kd.wi)]), (14, [(2, Kd.wi)]), (10, [(5, Kd.b), (8, Kd.w), (11, Kd.b), (14, Kd.w), (20, Kd.w), (23, Kd.w)]), (13, [(2, Kd.w)])], lax := [3] }), (59, { inl := true })]
theorem r38n (nx i ec en fe : Int) (nll ek nle1 nle2 nlf : Bool) (lenl lene1 lene2 lenf : Nat) (csl cse1 cse2 csf : List AV) (cpl cpe1 cpe2 cpf : Option Nat) (K : AExit → List (Nat × AV) → St → Prop) : (roundT Tryd.prog env tb_r38n 38 (bodyL Tryd.f38 0) 0 83 [2, 3, 7, 8, 9, 10] [3, 7, 8, 9, 6] [(2, lsl nll 0 csl lenl cpl), (3, ref 0 0), (7, ref 1 0), (8, lsl true 0 [] 0 (some 0)), (9, int i64 nx), (10, int i64 i)] ⟨[some (AObj.cells [int u8 ec, AV.bool ek, int u32 en, lsl nle1 0 cse1 lene1 cpe1, lsl nle2 0 cse2 lene2 cpe2] 32 false), some (AObj.cells [lsl nlf 0 csf lenf cpf, int i64 fe] 50 false)], 0⟩ K) =
    (br (decide (i < (↑lenl : Int))) (br (decide (nx < (↑lene2 : Int))) (nll = false ∧ (0 : Int) ≤ i ∧ i < (↑lenl : Int) ∧ ∃ z1 b2 z3 b4 b5 cs6, List.drop (Int.toNat i * 5) csl = int u8 z1 :: AV.bool b2 :: int u32 z3 :: AV.bool b4 :: AV.bool b5 :: cs6 ∧ br b4 (1 ≤ 1 ∧ 1 ≠ 0 ∧ (true = true ∨ some 0 = some 0) ∧ 0 ≤ 0 ∧ 8 ≤ 70368744177664 ∧ 1 ≤ 70368744177664 ∧ true = true ∧ K normal [(2, lsl nll 0 csl lenl cpl), (3, ref 0 0), (7, ref 1 0), (8, rsl 2 0 1 none), (9, int i64 (wrap i64 (nx + (1 : Int)))), (10, int i64 (wrap i64 (i + (1 : Int))))] ⟨[some (AObj.cells [int u8 ec, AV.bool ek, int u32 en, lsl nle1 0 cse1 lene1 cpe1, lsl nle2 0 cse2 lene2 cpe2] 32 false), some (AObj.cells [lsl nlf 0 csf lenf cpf, int i64 fe] 50 false), some (AObj.cells [int i64 nx] 3 true)], 0⟩) (nll = false ∧ (0 : Int) ≤ i ∧ i < (↑lenl : Int) ∧ ∃ z7 b8 z9 b10 b11 cs12, List.drop (Int.toNat i * 5) csl = int u8 z7 :: AV.bool b8 :: int u32 z9 :: AV.bool b10 :: AV.bool b11 :: cs12 ∧ nle2 = false ∧ (0 : Int) ≤ nx ∧ nx < (↑lene2 : Int) ∧ ∃ z13 b14 z15 b16 cs17 n18 cp19 b20 cs21 n22 cp23 cs24, List.drop (Int.toNat nx * 5) cse2 = int u8 z13 :: AV.bool b14 :: int u32 z15 :: lsl b16 0 cs17 n18 cp19 :: lsl b20 0 cs21 n22 cp23 :: cs24 ∧ br (z7 == z13 && (b8 == b14 && z9 == z15)) (1 ≤ 1 ∧ 1 ≠ 0 ∧ (true = true ∨ some 0 = some 0) ∧ 0 ≤ 0 ∧ 8 ≤ 70368744177664 ∧ 1 ≤ 70368744177664 ∧ true = true ∧ K normal [(2, lsl nll 0 csl lenl cpl), (3, ref 0 0), (7, ref 1 0), (8, rsl 2 0 1 none), (9, int i64 (wrap i64 (nx + (1 : Int)))), (10, int i64 (wrap i64 (i + (1 : Int))))] ⟨[some (AObj.cells [int u8 ec, AV.bool ek, int u32 en, lsl nle1 0 cse1 lene1 cpe1, lsl nle2 0 cse2 lene2 cpe2] 32 false), some (AObj.cells [lsl nlf 0 csf lenf cpf, int i64 fe] 50 false), some (AObj.cells [int i64 nx] 3 true)], 0⟩) (nll = false ∧ (0 : Int) ≤ i ∧ i < (↑lenl : Int) ∧ ∃ z25 b26 z27 b28 b29 cs30, List.drop (Int.toNat i * 5) csl = int u8 z25 :: AV.bool b26 :: int u32 z27 :: AV.bool b28 :: AV.bool b29 :: cs30 ∧ br b29 (1 ≤ 1 ∧ 1 ≠ 0 ∧ (true = true ∨ some 0 = some 0) ∧ 0 ≤ 0 ∧ 8 ≤ 70368744177664 ∧ 1 ≤ 70368744177664 ∧ true = true ∧ K normal [(2, lsl nll 0 csl lenl cpl), (3, ref 0 0), (7, ref 1 0), (8, rsl 2 0 1 none), (9, int i64 nx), (10, int i64 (wrap i64 (i + (1 : Int))))] ⟨[some (AObj.cells [int u8 ec, AV.bool ek, int u32 en, lsl nle1 0 cse1 lene1 cpe1, lsl nle2 0 cse2 lene2 cpe2] 32 false), some (AObj.cells [lsl nlf 0 csf lenf cpf, int i64 fe] 50 false), some (AObj.cells [int i64 (-1)] 3 true)], 0⟩) (br (nx == (↑lene2 : Int)) (K AExit.ret [(3, ref 0 0), (7, ref 1 0), (8, lsl true 0 [] 0 (some 0)), (9, int i64 nx), (6, lsl true 0 [] 0 (some 0))] ⟨[some (AObj.cells [int u8 ec, AV.bool ek, int u32 en, lsl nle1 0 cse1 lene1 cpe1, lsl nle2 0 cse2 lene2 cpe2] 32 false), some (AObj.cells [lsl true 0 [] 0 (some 0), int i64 7] 50 false)], 0⟩) (br (decide (nx ≥ (0 : Int))) (K AExit.ret [(3, ref 0 0), (7, ref 1 0), (8, lsl true 0 [] 0 (some 0)), (9, int i64 nx), (6, lsl true 0 [] 0 (some 0))] ⟨[some (AObj.cells [int u8 ec, AV.bool ek, int u32 en, lsl nle1 0 cse1 lene1 cpe1, lsl nle2 0 cse2 lene2 cpe2] 32 false), some (AObj.cells [lsl false 0 [int i64 nx] 1 none, int i64 9] 50 false)], 0⟩) (K AExit.ret [(3, ref 0 0), (7, ref 1 0), (8, lsl true 0 [] 0 (some 0)), (9, int i64 nx), (6, lsl true 0 [] 0 (some 0))] ⟨[some (AObj.cells [int u8 ec, AV.bool ek, int u32 en, lsl nle1 0 cse1 lene1 cpe1, lsl nle2 0 cse2 lene2 cpe2] 32 false), some (AObj.cells [lsl true 0 [] 0 (some 0), int i64 9] 50 false)], 0⟩)))))) (nll = false ∧ (0 : Int) ≤ i ∧ i < (↑lenl : Int) ∧ ∃ z31 b32 z33 b34 b35 cs36, List.drop (Int.toNat i * 5) csl = int u8 z31 :: AV.bool b32 :: int u32 z33 :: AV.bool b34 :: AV.bool b35 :: cs36 ∧ br b35 (1 ≤ 1 ∧ 1 ≠ 0 ∧ (true = true ∨ some 0 = some 0) ∧ 0 ≤ 0 ∧ 8 ≤ 70368744177664 ∧ 1 ≤ 70368744177664 ∧ true = true ∧ K normal [(2, lsl nll 0 csl lenl cpl), (3, ref 0 0), (7, ref 1 0), (8, rsl 2 0 1 none), (9, int i64 nx), (10, int i64 (wrap i64 (i + (1 : Int))))] ⟨[some (AObj.cells [int u8 ec, AV.bool ek, int u32 en, lsl nle1 0 cse1 lene1 cpe1, lsl nle2 0 cse2 lene2 cpe2] 32 false), some (AObj.cells [lsl nlf 0 csf lenf cpf, int i64 fe] 50 false), some (AObj.cells [int i64 (-1)] 3 true)], 0⟩) (br (nx == (↑lene2 : Int)) (K AExit.ret [(3, ref 0 0), (7, ref 1 0), (8, lsl true 0 [] 0 (some 0)), (9, int i64 nx), (6, lsl true 0 [] 0 (some 0))] ⟨[some (AObj.cells [int u8 ec, AV.bool ek, int u32 en, lsl nle1 0 cse1 lene1 cpe1, lsl nle2 0 cse2 lene2 cpe2] 32 false), some (AObj.cells [lsl true 0 [] 0 (some 0), int i64 7] 50 false)], 0⟩) (br (decide (nx ≥ (0 : Int))) (K AExit.ret [(3, ref 0 0), (7, ref 1 0), (8, lsl true 0 [] 0 (some 0)), (9, int i64 nx), (6, lsl true 0 [] 0 (some 0))] ⟨[some (AObj.cells [int u8 ec, AV.bool ek, int u32 en, lsl nle1 0 cse1 lene1 cpe1, lsl nle2 0 cse2 lene2 cpe2] 32 false), some (AObj.cells [lsl false 0 [int i64 nx] 1 none, int i64 9] 50 false)], 0⟩) (K AExit.ret [(3, ref 0 0), (7, ref 1 0), (8, lsl true 0 [] 0 (some 0)), (9, int i64 nx), (6, lsl true 0 [] 0 (some 0))] ⟨[some (AObj.cells [int u8 ec, AV.bool ek, int u32 en, lsl nle1 0 cse1 lene1 cpe1, lsl nle2 0 cse2 lene2 cpe2] 32 false), some (AObj.cells [lsl true 0 [] 0 (some 0), int i64 9] 50 false)], 0⟩))))) (K (exit 0) [(3, ref 0 0), (7, ref 1 0), (8, lsl true 0 [] 0 (some 0)), (9, int i64 nx), (6, any)] ⟨[some (AObj.cells [int u8 ec, AV.bool ek, int u32 en, lsl nle1 0 cse1 lene1 cpe1, lsl nle2 0 cse2 lene2 cpe2] 32 false), some (AObj.cells [lsl nlf 0 csf lenf cpf, int i64 fe] 50 false)], 0⟩)) := by kernel_rfl

theorem vc38 (ec en tc tn : Int) (ek nle1 nle2 tk nll : Bool) (lene1 lene2 lenl : Nat) (cse1 cse2 csl : List AV) (cpe1 cpe2 cpl : Option Nat) (K : AOut → Prop) : (dataT Tryd.prog env [(38, { ops := [(3, [(3, Kd.w)])], loops := [(0, LoopS.inv [2, 3, 7, 8, 9, 10] fun _ σ => Sh.int fun nx' => Sh.nat fun m => Sh.cells fun cs => Sh.or (Sh.one (exit 0, [(3, ref 0 0), (7, ref 1 0), (8, rsl 2 0 m none), (9, int i64 nx'), (6, any)], ⟨[List.getD (St.objs σ) 0 none, List.getD (St.objs σ) 1 none, some (AObj.cells cs 3 true)], 0⟩)) (Sh.or (Sh.one (exit 0, [(3, ref 0 0), (7, ref 1 0), (8, lsl true 0 [] 0 (some 0)), (9, int i64 nx'), (6, any)], ⟨[List.getD (St.objs σ) 0 none, List.getD (St.objs σ) 1 none], 0⟩)) (Sh.bool fun nl => Sh.cells fun pcs => Sh.nat fun len => Sh.cap fun cp => Sh.int fun e => Sh.one (AExit.ret, [(3, ref 0 0), (7, ref 1 0), (8, any), (9, int i64 nx'), (6, lsl true 0 [] 0 (some 0))], ⟨[List.getD (St.objs σ) 0 none, some (AObj.cells [lsl nl 0 pcs len cp, int i64 e] 50 false), none], 0⟩))))], lax := [3] }), (59, { inl := true })] 38 [agg [int u8 ec, AV.bool ek, int u32 en, lsl nle1 0 cse1 lene1 cpe1, lsl nle2 0 cse2 lene2 cpe2], agg [int u8 tc, AV.bool tk, int u32 tn], lsl nll 0 csl lenl cpl] K) =
    (br (decide ((↑lenl : Int) > (256 : Int))) (K (AOut.ret (tup [lsl true 0 [] 0 (some 0), agg [lsl true 0 [] 0 (some 0), int i64 3]]))) (br (!(ec == tc && (ek == tk && en == tn))) (K (AOut.ret (tup [lsl true 0 [] 0 (some 0), agg [lsl true 0 [] 0 (some 0), int i64 9]]))) (∃ z1 n2 cs3, Cd 0 (Code.loop (bodyL Tryd.f38 0)) (frOf 83 [(2, lsl nll 0 csl lenl cpl), (3, ref 0 0), (7, ref 1 0), (8, lsl true 0 [] 0 (some 0)), (9, int i64 0), (10, int i64 0)]) ⟨[some (AObj.cells [int u8 ec, AV.bool ek, int u32 en, lsl nle1 0 cse1 lene1 cpe1, lsl nle2 0 cse2 lene2 cpe2] 32 false), some (AObj.cells [lsl true 0 [] 0 (some 0), int i64 0] 50 false)], 0⟩ (exit 0) (frOf 83 [(3, ref 0 0), (7, ref 1 0), (8, rsl 2 0 n2 none), (9, int i64 z1), (6, any)]) ⟨[some (AObj.cells [int u8 ec, AV.bool ek, int u32 en, lsl nle1 0 cse1 lene1 cpe1, lsl nle2 0 cse2 lene2 cpe2] 32 false), some (AObj.cells [lsl true 0 [] 0 (some 0), int i64 0] 50 false), some (AObj.cells cs3 3 true)], 0⟩ ∧ br (decide (z1 < (↑lene2 : Int))) (br (decide (z1 ≥ (0 : Int))) (K (AOut.ret (tup [lsl true 0 [] 0 (some 0), agg [lsl false 0 [int i64 z1] 1 none, int i64 8]]))) (K (AOut.ret (tup [lsl true 0 [] 0 (some 0), agg [lsl true 0 [] 0 (some 0), int i64 8]])))) (tagLeL 0 cs3 = true ∧ K (AOut.ret (tup [lsl false 0 cs3 n2 none, agg [lsl true 0 [] 0 (some 0), int i64 0]]))) ∨ Cd 0 (Code.loop (bodyL Tryd.f38 0)) (frOf 83 [(2, lsl nll 0 csl lenl cpl), (3, ref 0 0), (7, ref 1 0), (8, lsl true 0 [] 0 (some 0)), (9, int i64 0), (10, int i64 0)]) ⟨[some (AObj.cells [int u8 ec, AV.bool ek, int u32 en, lsl nle1 0 cse1 lene1 cpe1, lsl nle2 0 cse2 lene2 cpe2] 32 false), some (AObj.cells [lsl true 0 [] 0 (some 0), int i64 0] 50 false)], 0⟩ (exit 0) (frOf 83 [(3, ref 0 0), (7, ref 1 0), (8, lsl true 0 [] 0 (some 0)), (9, int i64 z1), (6, any)]) ⟨[some (AObj.cells [int u8 ec, AV.bool ek, int u32 en, lsl nle1 0 cse1 lene1 cpe1, lsl nle2 0 cse2 lene2 cpe2] 32 false), some (AObj.cells [lsl true 0 [] 0 (some 0), int i64 0] 50 false)], 0⟩ ∧ br (decide (z1 < (↑lene2 : Int))) (br (decide (z1 ≥ (0 : Int))) (K (AOut.ret (tup [lsl true 0 [] 0 (some 0), agg [lsl false 0 [int i64 z1] 1 none, int i64 8]]))) (K (AOut.ret (tup [lsl true 0 [] 0 (some 0), agg [lsl true 0 [] 0 (some 0), int i64 8]])))) (K (AOut.ret (tup [lsl true 0 [] 0 (some 0), agg [lsl true 0 [] 0 (some 0), int i64 0]]))) ∨ ∃ b4 cs5 n6 cp7 z8, Cd 0 (Code.loop (bodyL Tryd.f38 0)) (frOf 83 [(2, lsl nll 0 csl lenl cpl), (3, ref 0 0), (7, ref 1 0), (8, lsl true 0 [] 0 (some 0)), (9, int i64 0), (10, int i64 0)]) ⟨[some (AObj.cells [int u8 ec, AV.bool ek, int u32 en, lsl nle1 0 cse1 lene1 cpe1, lsl nle2 0 cse2 lene2 cpe2] 32 false), some (AObj.cells [lsl true 0 [] 0 (some 0), int i64 0] 50 false)], 0⟩ AExit.ret (frOf 83 [(3, ref 0 0), (7, ref 1 0), (8, any), (9, int i64 z1), (6, lsl true 0 [] 0 (some 0))]) ⟨[some (AObj.cells [int u8 ec, AV.bool ek, int u32 en, lsl nle1 0 cse1 lene1 cpe1, lsl nle2 0 cse2 lene2 cpe2] 32 false), some (AObj.cells [lsl b4 0 cs5 n6 cp7, int i64 z8] 50 false), none], 0⟩ ∧ K (AOut.ret (tup [lsl true 0 [] 0 (some 0), agg [lsl b4 0 cs5 n6 cp7, int i64 z8]]))))) := by kernel_rfl
end

section
variable {c n : Int} {k nl1 nl2 : Bool} {csa csb : List AV} {la : Nat} {cpa cpb : Option Nat} {subs : List El} {l : List Fld} {nll : Bool} {exl : List AV} {cpl : Option Nat}

def outV (out : List Int) : AV := match out with
  | [] => .lsl true 0 [] 0 (some 0)
  | x :: r => .rsl 2 0 (x :: r).length none
def outO (out : List Int) : List (Option AObj) := match out with
  | [] => []
  | x :: r => [oL (x :: r) true]

theorem outV_app (out : List Int) (v : Int) : outV (out ++ [v]) = .rsl 2 0 (out.length + 1) none ∧ outO (out ++ [v]) = [oL (out ++ [v]) true] := by
  cases out with
  | nil => exact ⟨rfl, rfl⟩
  | cons x r => exact ⟨by simp [outV], rfl⟩

/-- What stands behind the loop. -/
def Q38 (o1 : Option AObj) (r : Int × List Int × List Int × Nat) (ae : AExit) (kvs : List (Nat × AV)) (σ : St) : Prop :=
  if r.1 = 0 then ae = .exit 0 ∧ kvs = [(3, .ref 0 0), (7, .ref 1 0), (8, outV r.2.2.1), (9, .int .i64 r.2.2.2), (6, .any)] ∧ σ = ⟨o1 :: oF (.lsl true 0 [] 0 (some 0)) 0 :: outO r.2.2.1, 0⟩
  else ae = .ret ∧ ∃ nlv cp v8 os, kvs = [(3, .ref 0 0), (7, .ref 1 0), (8, v8), (9, .int .i64 r.2.2.2), (6, .lsl true 0 [] 0 (some 0))] ∧ (nlv = true → r.2.1 = []) ∧ capOk r.2.1.length cp ∧ leOs os [none] ∧
            σ = ⟨o1 :: oF (.lsl nlv 0 (r.2.1.map (AV.int .i64)) r.2.1.length cp) r.1 :: os, 0⟩

theorem loop38 (hs : ElsA subs csb) (hsl : subs.length < 2 ^ 48) (hnl : nl2 = true → subs = []) (hnll : nll = true → l = []) (hll : l.length ≤ 256) :
    ∀ (x : Nat × Nat × List Int) (kvs : List (Nat × AV)) (σ : St), (x.1 = x.2.2.length ∧ x.1 ≤ l.length ∧ x.2.1 ≤ subs.length ∧
        kvs = [(2, .lsl nll 0 (l.flatMap fldCells ++ exl) l.length cpl), (3, .ref 0 0), (7, .ref 1 0), (8, outV x.2.2), (9, .int .i64 x.2.1), (10, .int .i64 x.1)] ∧
        σ = ⟨oE c k n (.lsl nl1 0 csa la cpa) (.lsl nl2 0 csb subs.length cpb) :: oF (.lsl true 0 [] 0 (some 0)) 0 :: outO x.2.2, 0⟩) →
      ∃ ae kvs' σ', Q38 (oE c k n (.lsl nl1 0 csa la cpa) (.lsl nl2 0 csb subs.length cpb)) (seqGo subs (l.drop x.1) x.2.1 x.2.2) ae kvs' σ' ∧
        Cd 0 (.loop (bodyL Tryd.f38 0)) (frOf 83 kvs) σ ae (frOf 83 kvs') σ' := by
  refine loop_by (tb := tb_r38) (f := 38) (c := bodyL Tryd.f38 0) (k := 0) (N := 83) (keepN := [2, 3, 7, 8, 9, 10]) (keepX := [3, 7, 8, 9, 6]) env_ok _ _ (fun x => l.length - x.1) ?_
  rintro ⟨i, nx, out⟩ kvs σ ⟨hio, hi, hnx, rfl, rfl⟩
  simp only at hio hi hnx ⊢
  have hwi : IntKind.i64.wrap ((i : Int) + 1) = ((i + 1 : Nat) : Int) := by rw [wrap_small (by omega) (by omega)]; simp
  have hwn : IntKind.i64.wrap ((nx : Int) + 1) = ((nx + 1 : Nat) : Int) := by rw [wrap_small (by omega) (by omega)]; simp
  -- the ways on
  have next : ∀ (v : Int) (nx' : Nat), nx' ≤ subs.length → i < l.length → seqGo subs (l.drop i) nx out = seqGo subs (l.drop (i + 1)) nx' (out ++ [v]) →
      ∃ y : Nat × Nat × List Int, l.length - y.1 < l.length - i ∧ (y.1 = y.2.2.length ∧ y.1 ≤ l.length ∧ y.2.1 ≤ subs.length ∧
        [(2, AV.lsl nll 0 (l.flatMap fldCells ++ exl) l.length cpl), (3, .ref 0 0), (7, .ref 1 0), (8, .rsl 2 0 (out.length + 1) none), (9, .int .i64 (nx' : Int)), (10, .int .i64 ((i + 1 : Nat) : Int))] =
          [(2, .lsl nll 0 (l.flatMap fldCells ++ exl) l.length cpl), (3, .ref 0 0), (7, .ref 1 0), (8, outV y.2.2), (9, .int .i64 y.2.1), (10, .int .i64 y.1)] ∧
        (⟨[oE c k n (.lsl nl1 0 csa la cpa) (.lsl nl2 0 csb subs.length cpb), oF (.lsl true 0 [] 0 (some 0)) 0, oL (out ++ [v]) true], 0⟩ : St) =
          ⟨oE c k n (.lsl nl1 0 csa la cpa) (.lsl nl2 0 csb subs.length cpb) :: oF (.lsl true 0 [] 0 (some 0)) 0 :: outO y.2.2, 0⟩) ∧
        ∀ ae kvs σ, Q38 (oE c k n (.lsl nl1 0 csa la cpa) (.lsl nl2 0 csb subs.length cpb)) (seqGo subs (l.drop y.1) y.2.1 y.2.2) ae kvs σ → Q38 (oE c k n (.lsl nl1 0 csa la cpa) (.lsl nl2 0 csb subs.length cpb)) (seqGo subs (l.drop i) nx out) ae kvs σ := by
    intro v nx' h1 h0 h2
    refine ⟨(i + 1, nx', out ++ [v]), by simp only; omega, ⟨by simp [hio], by simp only; omega, h1, ?_, ?_⟩, fun ae kvs σ h => by rw [h2]; exact h⟩
    · rw [(outV_app out v).1]
    · rw [(outV_app out v).2]
  have err : ∀ (er : Int) (path : List Int) (nlv : Bool) (cp : Option Nat) (v8 : AV) (os : List (Option AObj)), er ≠ 0 → (nlv = true → path = []) → capOk path.length cp → leOs os [none] → seqGo subs (l.drop i) nx out = (er, path, out, nx) →
      Q38 (oE c k n (.lsl nl1 0 csa la cpa) (.lsl nl2 0 csb subs.length cpb)) (seqGo subs (l.drop i) nx out) .ret [(3, .ref 0 0), (7, .ref 1 0), (8, v8), (9, .int .i64 (nx : Int)), (6, .lsl true 0 [] 0 (some 0))]
        ⟨oE c k n (.lsl nl1 0 csa la cpa) (.lsl nl2 0 csb subs.length cpb) :: oF (.lsl nlv 0 (path.map (AV.int .i64)) path.length cp) er :: os, 0⟩ := by
    intro er path nlv cp v8 os h1 h2 h3 h4 h5
    rw [h5]
    unfold Q38
    rw [if_neg h1]
    exact ⟨rfl, nlv, cp, v8, os, rfl, h2, h3, h4, rfl⟩
  -- what the fields and the elements give
  have hnlf : i < l.length → nll = false := by
    intro hlt
    cases nll
    · rfl
    · rw [hnll rfl] at hlt; simp at hlt
  have hn2 : nx < subs.length → nl2 = false := by
    intro hlt
    cases nl2
    · rfl
    · rw [hnl rfl] at hlt; simp at hlt
  by_cases hlt : i < l.length
  · have hdrop : l.drop i = l[i] :: l.drop (i + 1) := List.drop_eq_getElem_cons hlt
    have hcells := flds_at (ex := exl) hlt
    generalize l[i] = f at hdrop hcells
    obtain ⟨fc, fk, fn, fa, fo⟩ := f
    have hfc : List.drop (Int.toNat (i : Int) * 5) (l.flatMap fldCells ++ exl) = .int .u8 fc :: .bool fk :: .int .u32 fn :: .bool fa :: .bool fo :: ((l.drop (i + 1)).flatMap fldCells ++ exl) := by
      rw [Int.toNat_natCast, hcells]; rfl
    have step : ∀ b, fitsAt subs nx ⟨fc, fk, fn, fa, fo⟩ = b → seqGo subs (l.drop i) nx out = if b = true then seqGo subs (l.drop (i + 1)) (nx + 1) (out ++ [(nx : Int)]) else if fo = true then seqGo subs (l.drop (i + 1)) nx (out ++ [-1]) else if nx = subs.length then (7, [], out, nx) else (9, [(nx : Int)], out, nx) := by
      intro b hb
      rw [hdrop]
      simp only [seqGo, hb]
    have hF : ∀ K : Prop, K → nll = false ∧ (0 : Int) ≤ i ∧ (i : Int) < l.length ∧ K := fun K hk => ⟨hnlf hlt, by omega, by omega, hk⟩
    -- what an element adds
    have hEl : nx < subs.length → ∃ c' k' n' bs' ss' m1 ex1 cp1 m2 cs2 cp2 t, subs[nx]? = some (.mk c' k' n' bs' ss') ∧ nl2 = false ∧
        List.drop (Int.toNat (nx : Int) * 5) csb = .int .u8 c' :: .bool k' :: .int .u32 n' :: .lsl m1 0 (bs'.map (AV.int .u8) ++ ex1) bs'.length cp1 :: .lsl m2 0 cs2 ss'.length cp2 :: t := by
      intro hn
      obtain ⟨c', k', n', bs', ss', m1, ex1, cp1, m2, cs2, cp2, t, hget, hd, -⟩ := hs.cell hn
      exact ⟨c', k', n', bs', ss', m1, ex1, cp1, m2, cs2, cp2, t, hget, hn2 hn, by simpa using hd⟩
    have hnone : ¬ nx < subs.length → fitsAt subs nx ⟨fc, fk, fn, fa, fo⟩ = false := by
      intro hn
      have : subs[nx]? = none := by rw [List.getElem?_eq_none_iff]; omega
      simp only [fitsAt, this]
    cases out with
    | nil =>
      show roundT _ _ _ _ _ _ _ _ _ [(2, _), (3, .ref 0 0), (7, .ref 1 0), (8, .lsl true 0 [] 0 (some 0)), (9, _), (10, _)] ⟨[_, _], 0⟩ _
      rw [r38n, hwi, hwn]
      refine br_t (by simpa using hlt) ?_
      refine br_i (fun hn => ?_) (fun hn => ?_)
      · have hn : nx < subs.length := by simpa using hn
        obtain ⟨c', k', n', bs', ss', m1, ex1, cp1, m2, cs2, cp2, t, hget, hnl2, hd⟩ := hEl hn
        refine hF _ ⟨_, _, _, _, _, _, hfc, ?_⟩
        refine br_i (fun ha => ?_) (fun ha => ?_)
        · exact ⟨by omega, by omega, .inl rfl, by omega, by omega, by omega, rfl, next nx (nx + 1) hn hlt (by rw [step true (by simp only [fitsAt, hget, fits, ha, Bool.true_or])]; rfl)⟩
        · refine hF _ ⟨_, _, _, _, _, _, hfc, hnl2, by omega, by omega, _, _, _, _, _, _, _, _, _, _, _, _, hd, ?_⟩
          refine br_i (fun hm => ?_) (fun hm => ?_)
          · exact ⟨by omega, by omega, .inl rfl, by omega, by omega, by omega, rfl, next nx (nx + 1) hn hlt (by rw [step true (by simp only [fitsAt, hget, fits, ha, Bool.false_or, El.c, El.k, El.n]; exact hm)]; rfl)⟩
          · have hst := step false (by simp only [fitsAt, hget, fits, ha, Bool.false_or, El.c, El.k, El.n]; exact hm)
            simp only [Bool.false_eq_true, if_false] at hst
            refine hF _ ⟨_, _, _, _, _, _, hfc, ?_⟩
            refine br_i (fun ho => ?_) (fun ho => ?_)
            · exact ⟨by omega, by omega, .inl rfl, by omega, by omega, by omega, rfl, next (-1) nx hnx hlt (by rw [hst, if_pos ho])⟩
            · rw [ho] at hst
              simp only [Bool.false_eq_true, if_false] at hst
              refine br_i (fun hq => ?_) (fun hq => br_t (by simp) ?_)
              · have := beq_iff_eq.1 hq; omega
              · exact err 9 [(nx : Int)] false none _ [] (by omega) (by simp) capOk_none (by simp [leOs]) (by rw [hst, if_neg (by omega)])
      · have hn : ¬ nx < subs.length := by simpa using hn
        have hst := step false (hnone hn)
        simp only [Bool.false_eq_true, if_false] at hst
        refine hF _ ⟨_, _, _, _, _, _, hfc, ?_⟩
        refine br_i (fun ho => ?_) (fun ho => ?_)
        · exact ⟨by omega, by omega, .inl rfl, by omega, by omega, by omega, rfl, next (-1) nx hnx hlt (by rw [hst, if_pos ho])⟩
        · rw [ho] at hst
          simp only [Bool.false_eq_true, if_false] at hst
          refine br_i (fun hq => ?_) (fun hq => ?_)
          · exact err 7 [] true (some 0) _ [] (by omega) (by simp) capOk_some (by simp [leOs]) (by rw [hst, if_pos (by omega)])
          · have := beq_eq_false_iff_ne.1 hq; omega
    | cons y0 ys =>
      show roundT _ _ _ _ _ _ _ _ _ [(2, _), (3, .ref 0 0), (7, .ref 1 0), (8, .rsl 2 0 (y0 :: ys).length none), (9, _), (10, _)] ⟨[_, _, some (.cells _ 3 true)], 0⟩ _
      generalize hout : y0 :: ys = out at *
      rw [r38, hwi, hwn]
      have hap : ∀ v : Int, out.map (AV.int .i64) ++ [.int .i64 v] = (out ++ [v]).map (AV.int .i64) := fun v => by simp
      have hlo : (out.map (AV.int .i64)).length = out.length * 1 := by simp
      refine br_t (by simpa using hlt) ?_
      refine br_i (fun hn => ?_) (fun hn => ?_)
      · have hn : nx < subs.length := by simpa using hn
        obtain ⟨c', k', n', bs', ss', m1, ex1, cp1, m2, cs2, cp2, t, hget, hnl2, hd⟩ := hEl hn
        refine hF _ ⟨_, _, _, _, _, _, hfc, ?_⟩
        refine br_i (fun ha => ?_) (fun ha => ?_)
        · rw [hap]; exact ⟨by omega, by omega, hlo, by omega, by omega, tagLeL_map _, next nx (nx + 1) hn hlt (by rw [step true (by simp only [fitsAt, hget, fits, ha, Bool.true_or])]; rfl)⟩
        · refine hF _ ⟨_, _, _, _, _, _, hfc, hnl2, by omega, by omega, _, _, _, _, _, _, _, _, _, _, _, _, hd, ?_⟩
          refine br_i (fun hm => ?_) (fun hm => ?_)
          · rw [hap]; exact ⟨by omega, by omega, hlo, by omega, by omega, tagLeL_map _, next nx (nx + 1) hn hlt (by rw [step true (by simp only [fitsAt, hget, fits, ha, Bool.false_or, El.c, El.k, El.n]; exact hm)]; rfl)⟩
          · have hst := step false (by simp only [fitsAt, hget, fits, ha, Bool.false_or, El.c, El.k, El.n]; exact hm)
            simp only [Bool.false_eq_true, if_false] at hst
            refine hF _ ⟨_, _, _, _, _, _, hfc, ?_⟩
            refine br_i (fun ho => ?_) (fun ho => ?_)
            · rw [hap]; exact ⟨by omega, by omega, hlo, by omega, by omega, tagLeL_map _, next (-1) nx hnx hlt (by rw [hst, if_pos ho])⟩
            · rw [ho] at hst
              simp only [Bool.false_eq_true, if_false] at hst
              refine br_i (fun hq => ?_) (fun hq => br_t (by simp) ?_)
              · have := beq_iff_eq.1 hq; omega
              · exact ⟨tagLeL_map _, err 9 [(nx : Int)] false none _ [_] (by omega) (by simp) capOk_none (by simp [leOs]) (by rw [hst, if_neg (by omega)])⟩
      · have hn : ¬ nx < subs.length := by simpa using hn
        have hst := step false (hnone hn)
        simp only [Bool.false_eq_true, if_false] at hst
        refine hF _ ⟨_, _, _, _, _, _, hfc, ?_⟩
        refine br_i (fun ho => ?_) (fun ho => ?_)
        · rw [hap]; exact ⟨by omega, by omega, hlo, by omega, by omega, tagLeL_map _, next (-1) nx hnx hlt (by rw [hst, if_pos ho])⟩
        · rw [ho] at hst
          simp only [Bool.false_eq_true, if_false] at hst
          refine br_i (fun hq => ?_) (fun hq => ?_)
          · exact ⟨tagLeL_map _, err 7 [] true (some 0) _ [_] (by omega) (by simp) capOk_some (by simp [leOs]) (by rw [hst, if_pos (by omega)])⟩
          · have := beq_eq_false_iff_ne.1 hq; omega
  · have hge : i = l.length := by omega
    have hd : l.drop i = [] := by rw [hge, List.drop_length]
    cases out with
    | nil =>
      show roundT _ _ _ _ _ _ _ _ _ [(2, _), (3, .ref 0 0), (7, .ref 1 0), (8, .lsl true 0 [] 0 (some 0)), (9, _), (10, _)] ⟨[_, _], 0⟩ _
      rw [r38n]
      refine br_f (by simpa using hlt) ?_
      rw [hd]
      exact ⟨rfl, rfl, rfl⟩
    | cons y0 ys =>
      show roundT _ _ _ _ _ _ _ _ _ [(2, _), (3, .ref 0 0), (7, .ref 1 0), (8, .rsl 2 0 (y0 :: ys).length none), (9, _), (10, _)] ⟨[_, _, some (.cells _ 3 true)], 0⟩ _
      rw [r38]
      refine br_f (by simpa using hlt) ⟨tagLeL_map _, ?_⟩
      rw [hd]
      exact ⟨rfl, rfl, rfl⟩
end

theorem sum38 {e : El} {cells : List AV} (h : ElA e cells) (tc : Int) (tk : Bool) (tn : Int) {l : List Fld} {a : AV} (ha : FS l a) :
    SeqR 38 [.agg cells, .agg [.int .u8 tc, .bool tk, .int .u32 tn], a] false (seqM e tc tk tn l) := by
  obtain ⟨c, k, n, bs, subs⟩ := e
  obtain ⟨nl1, ex1, cp1, nl2, cs2, cp2, rfl, hc1, hl1, hn1, hc2, hl2, hn2, hs⟩ := h.out
  obtain ⟨nll, exl, cpl, rfl, hcl, hnll⟩ := ha
  show SeqR _ _ _ (seqF c k n subs tc tk tn l)
  unfold seqF
  by_cases h256 : l.length > 256
  · rw [if_pos h256]
    exact ⟨.lsl true 0 [] 0 (some 0), true, some 0, sum_vc (vc38 ..) (br_t (by simp; omega) rfl), capOk_some, by simp, by simp, by simp, _, _, _, _, rfl⟩
  rw [if_neg h256]
  have hb256 : decide ((l.length : Int) > 256) = false := by simp; omega
  by_cases ht : c = tc ∧ k = tk ∧ n = tn
  · rw [if_pos ht]
    obtain ⟨ae, kvs', σ', hq, hcd⟩ := loop38 (c := c) (n := n) (k := k) (nl1 := nl1) (nl2 := nl2) (csa := bs.map (AV.int .u8) ++ ex1) (la := bs.length) (cpa := cp1) (cpb := cp2) (exl := exl) (cpl := cpl) hs hl2 hn2 hnll (by omega) (0, 0, []) _ _
      ⟨rfl, by simp, by simp, rfl, rfl⟩
    simp only [List.drop_zero] at hq
    have hnx := seqGo_nx (subs := subs) l 0 [] (by omega)
    generalize seqGo subs l 0 [] = r at hq hnx
    have htag : (!(c == tc && (k == tk && n == tn))) = false := by simp [ht.1, ht.2.1, ht.2.2]
    unfold seqEnd
    unfold Q38 at hq
    by_cases hr0 : r.1 = 0
    · rw [if_pos hr0] at hq
      obtain ⟨rfl, rfl, rfl⟩ := hq
      rw [if_pos hr0]
      have hlen := hnx.2 hr0
      simp at hlen
      generalize hro : r.2.2.1 = out at hcd hlen
      by_cases hlt : r.2.2.2 < subs.length
      · rw [if_pos hlt]
        have hlt' : decide ((r.2.2.2 : Int) < subs.length) = true := by simp; omega
        have hge' : decide ((r.2.2.2 : Int) ≥ 0) = true := by simp
        cases out with
        | nil => exact ⟨.lsl true 0 [] 0 (some 0), false, none, sum_vc (vc38 ..) (br_f hb256 (br_f htag ⟨r.2.2.2, 0, [], .inr (.inl ⟨hcd, br_t hlt' (br_t hge' rfl)⟩)⟩)), capOk_none, by simp, by simp, by simp, _, _, _, _, rfl⟩
        | cons y ys => exact ⟨.lsl true 0 [] 0 (some 0), false, none, sum_vc (vc38 ..) (br_f hb256 (br_f htag ⟨r.2.2.2, (y :: ys).length, (y :: ys).map (AV.int .i64), .inl ⟨hcd, br_t hlt' (br_t hge' rfl)⟩⟩)), capOk_none, by simp, by simp, by simp, _, _, _, _, rfl⟩
      · rw [if_neg hlt]
        have hlt' : decide ((r.2.2.2 : Int) < subs.length) = false := by simp; omega
        cases out with
        | nil =>
          refine ⟨.lsl true 0 [] 0 (some 0), true, some 0, sum_vc (vc38 ..) (br_f hb256 (br_f htag ⟨r.2.2.2, 0, [], .inr (.inl ⟨hcd, br_f hlt' rfl⟩)⟩)), capOk_some, by simp, by simp, fun _ => ?_, _, _, _, _, rfl⟩
          exact ⟨true, [], some 0, rfl, capOk_some, by simp, fun _ => rfl⟩
        | cons y ys =>
          refine ⟨.lsl false 0 ((y :: ys).map (AV.int .i64)) (y :: ys).length none, true, some 0, sum_vc (vc38 ..) (br_f hb256 (br_f htag ⟨r.2.2.2, (y :: ys).length, (y :: ys).map (AV.int .i64), .inl ⟨hcd, br_f hlt' ⟨tagLeL_map _, rfl⟩⟩⟩)), capOk_some, by simp, by simp, fun _ => ?_, _, _, _, _, rfl⟩
          exact ⟨false, [], none, by simp, capOk_none, by simp at hlen ⊢; omega, by simp⟩
    · rw [if_neg hr0] at hq
      obtain ⟨rfl, nlv, cp, v8, os, rfl, hnlv, hcp, hos, rfl⟩ := hq
      rw [if_neg hr0]
      refine ⟨.lsl true 0 [] 0 (some 0), nlv, cp, sum_vc (vc38 ..) (br_f hb256 (br_f htag ⟨r.2.2.2, 0, [], .inr (.inr ⟨nlv, _, _, _, _, hcd.weak ?_ ?_, rfl⟩)⟩)), hcp, by simp, hnlv, fun h => absurd h hr0, _, _, _, _, rfl⟩
      · exact ⟨rfl, .inl rfl, rfl, .inl rfl, rfl, .inr rfl, rfl, .inl rfl, rfl, .inl rfl, trivial⟩
      · exact ⟨.inl rfl, .inl rfl, hos⟩
  · rw [if_neg ht]
    refine ⟨.lsl true 0 [] 0 (some 0), true, some 0, sum_vc (vc38 ..) (br_f hb256 (br_t ?_ rfl)), capOk_some, by simp, by simp, by simp, _, _, _, _, rfl⟩
    simp only [Bool.not_eq_true', Bool.and_eq_false_imp, beq_iff_eq, beq_eq_false_iff_ne]
    intro h1 h2 h3
    exact ht ⟨h1, h2, h3⟩

end Go.Vid
