/-
Elements from codes: tags, elements, SEQUENCEs.
-/
import Derived.Test.YtnjlocjikfbgdaaDoorWT
import Derived.Test.YtnjlocjikfbgdaaDoorWO
import Derived.Test.YtnjlocjikfbgdaaDoorXD
set_option linter.all false
namespace Go.Vid
open Go.Proofs
set_option maxRecDepth 100000
section
open AExit AOut AV IntKind
theorem vc54 (n : Int) (K : AOut → Prop) : (dataT Tryd.prog env [] 54 [int u8 n] K) =
    (br (Int.tmod n (8 : Int) == (0 : Int)) (K (AOut.ret (agg [int u8 0, AV.bool true, int u32 16]))) (br (Int.tmod n (8 : Int) == (1 : Int)) (K (AOut.ret (agg [int u8 0, AV.bool true, int u32 17]))) (br (Int.tmod n (8 : Int) == (2 : Int)) (K (AOut.ret (agg [int u8 2, AV.bool true, int u32 (wrap u32 (wrap u32 (Int.tmod (wrap u8 (Int.tdiv n (8 : Int))) (4 : Int)) * (12 : Int)))]))) (br (Int.tmod n (8 : Int) == (3 : Int)) (K (AOut.ret (agg [int u8 2, AV.bool false, int u32 (wrap u32 (Int.tmod (wrap u8 (Int.tdiv n (8 : Int))) (4 : Int)))]))) (br (Int.tmod n (8 : Int) == (4 : Int)) (K (AOut.ret (agg [int u8 0, AV.bool false, int u32 1]))) (br (Int.tmod n (8 : Int) == (5 : Int)) (K (AOut.ret (agg [int u8 0, AV.bool false, int u32 4]))) (K (AOut.ret (agg [int u8 0, AV.bool false, int u32 2]))))))))) := by kernel_rfl
theorem vc34 (nlb : Bool) (lenb : Nat) (csb : List AV) (cpb : Option Nat) (K : AOut → Prop) : (dataT Tryd.prog env [] 34 [agg [lsl nlb 0 csb lenb cpb]] K) =
    (∃ b1 cs2 n3 cp4 z5, Sm 53 [lsl nlb 0 csb lenb cpb, int i64 0, int i64 2] ((tup [lsl b1 0 cs2 n3 cp4, int i64 z5])) ∧ ∃ z6 b7 z8, Sm 54 [int u8 0] ((agg [int u8 z6, AV.bool b7, int u32 z8])) ∧ K (AOut.ret (agg [int u8 z6, AV.bool b7, int u32 z8, nilS, lsl b1 0 cs2 n3 cp4]))) := by kernel_rfl
abbrev tb_r53n : List (FuncId × Sc) := [(53, { ops := [(2, [(4, Kd.b)]), (3, [(2, Kd.w)]), (11, [(4, Kd.b)]), (12, [(0, Kd.fz)]), (13, [(4, Kd.b)]), (14, [(2, Kd.fz)]), (15, [(6, Kd.fw)]), (16, [(3, Kd.w)])], lax := [1032] })]
theorem r53n (ps lv : Int) (nlb : Bool) (lenb : Nat) (csb : List AV) (cpb : Option Nat) (K : AExit → List (Nat × AV) → St → Prop) : (roundT Tryd.prog env tb_r53n 53 (bodyL Tryd.f53 0) 0 87 [0, 1, 2, 8] [1, 6, 7, 8] [(0, lsl nlb 0 csb lenb cpb), (1, int i64 ps), (2, int i64 lv), (8, nilS)] ⟨[], 0⟩ K) =
    (br (decide (ps < (↑lenb : Int))) (br (decide (ps < (40 : Int))) (nlb = false ∧ (0 : Int) ≤ ps ∧ ps < (↑lenb : Int) ∧ ∃ z1 cs2, List.drop (Int.toNat ps * 1) csb = int u8 z1 :: cs2 ∧ br (Int.tmod z1 (16 : Int) == (15 : Int)) (K AExit.ret [(1, int i64 (wrap i64 (ps + (1 : Int)))), (6, nilS), (7, int i64 (wrap i64 (ps + (1 : Int)))), (8, nilS)] ⟨[], 0⟩) (∃ z3 b4 z5, Sm 54 [int u8 z1] ((agg [int u8 z3, AV.bool b4, int u32 z5])) ∧ br b4 (br (lv == (5 : Int)) (K normal [(0, lsl nlb 0 csb lenb cpb), (1, int i64 (wrap i64 (ps + (1 : Int)))), (2, int i64 lv), (8, nilS)] ⟨[], 0⟩) (∃ b6 cs7 n8 cp9 z10, Sm 53 [lsl nlb 0 csb lenb cpb, int i64 (wrap i64 (ps + (1 : Int))), int i64 (wrap i64 (lv + (1 : Int)))] ((tup [lsl b6 0 cs7 n8 cp9, int i64 z10])) ∧ 5 ≤ 5 ∧ (true = true ∨ some 0 = some 0) ∧ 0 ≤ 0 ∧ 56 ≤ 70368744177664 ∧ 1 ≤ 70368744177664 ∧ true = true ∧ K normal [(0, lsl nlb 0 csb lenb cpb), (1, int i64 z10), (2, int i64 lv), (8, rsl 0 0 1 none)] ⟨[some (AObj.cells [int u8 z3, AV.bool b4, int u32 z5, nilS, lsl b6 0 cs7 n8 cp9] 32 true)], 0⟩)) (br (z3 == (0 : Int)) (br (z5 == (1 : Int)) (5 ≤ 5 ∧ (true = true ∨ some 0 = some 0) ∧ 0 ≤ 0 ∧ 56 ≤ 70368744177664 ∧ 1 ≤ 70368744177664 ∧ true = true ∧ K normal [(0, lsl nlb 0 csb lenb cpb), (1, int i64 (wrap i64 (ps + (1 : Int)))), (2, int i64 lv), (8, rsl 0 0 1 none)] ⟨[some (AObj.cells [int u8 z3, AV.bool b4, int u32 z5, lsl false 0 [int u8 255] 1 (some 1), nilS] 32 true)], 0⟩) (br (z3 == (0 : Int)) (br (z5 == (2 : Int)) (5 ≤ 5 ∧ (true = true ∨ some 0 = some 0) ∧ 0 ≤ 0 ∧ 56 ≤ 70368744177664 ∧ 1 ≤ 70368744177664 ∧ true = true ∧ K normal [(0, lsl nlb 0 csb lenb cpb), (1, int i64 (wrap i64 (ps + (1 : Int)))), (2, int i64 lv), (8, rsl 0 0 1 none)] ⟨[some (AObj.cells [int u8 z3, AV.bool b4, int u32 z5, lsl false 0 [int u8 (wrap u8 (Int.tdiv z1 (8 : Int)))] 1 (some 1), nilS] 32 true)], 0⟩) ((0 : Int) ≤ wrap i64 (wrap i64 z1 * wrap i64 (wrap u8 (Int.tdiv z1 (64 : Int)))) ∧ wrap i64 (wrap i64 z1 * wrap i64 (wrap u8 (Int.tdiv z1 (64 : Int)))) ≤ wrap i64 (wrap i64 z1 * wrap i64 (wrap u8 (Int.tdiv z1 (64 : Int)))) ∧ wrap i64 (wrap i64 z1 * wrap i64 (wrap u8 (Int.tdiv z1 (64 : Int)))) ≤ (70368744177664 : Int) ∧ Int.toNat (wrap i64 (wrap i64 z1 * wrap i64 (wrap u8 (Int.tdiv z1 (64 : Int))))) * 1 ≤ 70368744177664 ∧ tagLeL 0 (madeRow [int u8 0] (Int.toNat (wrap i64 (wrap i64 z1 * wrap i64 (wrap u8 (Int.tdiv z1 (64 : Int))))) * 1)) = true ∧ 5 ≤ 5 ∧ (true = true ∨ some 0 = some 0) ∧ 0 ≤ 0 ∧ 56 ≤ 70368744177664 ∧ 1 ≤ 70368744177664 ∧ true = true ∧ K normal [(0, lsl nlb 0 csb lenb cpb), (1, int i64 (wrap i64 (ps + (1 : Int)))), (2, int i64 lv), (8, rsl 0 0 1 none)] ⟨[some (AObj.cells [int u8 z3, AV.bool b4, int u32 z5, lsl false 0 (madeRow [int u8 0] (Int.toNat (wrap i64 (wrap i64 z1 * wrap i64 (wrap u8 (Int.tdiv z1 (64 : Int))))) * 1)) (Int.toNat (wrap i64 (wrap i64 z1 * wrap i64 (wrap u8 (Int.tdiv z1 (64 : Int)))))) (some (Int.toNat (wrap i64 (wrap i64 z1 * wrap i64 (wrap u8 (Int.tdiv z1 (64 : Int))))))), nilS] 32 true)], 0⟩)) ((0 : Int) ≤ wrap i64 (wrap i64 z1 * wrap i64 (wrap u8 (Int.tdiv z1 (64 : Int)))) ∧ wrap i64 (wrap i64 z1 * wrap i64 (wrap u8 (Int.tdiv z1 (64 : Int)))) ≤ wrap i64 (wrap i64 z1 * wrap i64 (wrap u8 (Int.tdiv z1 (64 : Int)))) ∧ wrap i64 (wrap i64 z1 * wrap i64 (wrap u8 (Int.tdiv z1 (64 : Int)))) ≤ (70368744177664 : Int) ∧ Int.toNat (wrap i64 (wrap i64 z1 * wrap i64 (wrap u8 (Int.tdiv z1 (64 : Int))))) * 1 ≤ 70368744177664 ∧ tagLeL 0 (madeRow [int u8 0] (Int.toNat (wrap i64 (wrap i64 z1 * wrap i64 (wrap u8 (Int.tdiv z1 (64 : Int))))) * 1)) = true ∧ 5 ≤ 5 ∧ (true = true ∨ some 0 = some 0) ∧ 0 ≤ 0 ∧ 56 ≤ 70368744177664 ∧ 1 ≤ 70368744177664 ∧ true = true ∧ K normal [(0, lsl nlb 0 csb lenb cpb), (1, int i64 (wrap i64 (ps + (1 : Int)))), (2, int i64 lv), (8, rsl 0 0 1 none)] ⟨[some (AObj.cells [int u8 z3, AV.bool b4, int u32 z5, lsl false 0 (madeRow [int u8 0] (Int.toNat (wrap i64 (wrap i64 z1 * wrap i64 (wrap u8 (Int.tdiv z1 (64 : Int))))) * 1)) (Int.toNat (wrap i64 (wrap i64 z1 * wrap i64 (wrap u8 (Int.tdiv z1 (64 : Int)))))) (some (Int.toNat (wrap i64 (wrap i64 z1 * wrap i64 (wrap u8 (Int.tdiv z1 (64 : Int))))))), nilS] 32 true)], 0⟩))) (br (z3 == (0 : Int)) (br (z5 == (2 : Int)) (5 ≤ 5 ∧ (true = true ∨ some 0 = some 0) ∧ 0 ≤ 0 ∧ 56 ≤ 70368744177664 ∧ 1 ≤ 70368744177664 ∧ true = true ∧ K normal [(0, lsl nlb 0 csb lenb cpb), (1, int i64 (wrap i64 (ps + (1 : Int)))), (2, int i64 lv), (8, rsl 0 0 1 none)] ⟨[some (AObj.cells [int u8 z3, AV.bool b4, int u32 z5, lsl false 0 [int u8 (wrap u8 (Int.tdiv z1 (8 : Int)))] 1 (some 1), nilS] 32 true)], 0⟩) ((0 : Int) ≤ wrap i64 (wrap i64 z1 * wrap i64 (wrap u8 (Int.tdiv z1 (64 : Int)))) ∧ wrap i64 (wrap i64 z1 * wrap i64 (wrap u8 (Int.tdiv z1 (64 : Int)))) ≤ wrap i64 (wrap i64 z1 * wrap i64 (wrap u8 (Int.tdiv z1 (64 : Int)))) ∧ wrap i64 (wrap i64 z1 * wrap i64 (wrap u8 (Int.tdiv z1 (64 : Int)))) ≤ (70368744177664 : Int) ∧ Int.toNat (wrap i64 (wrap i64 z1 * wrap i64 (wrap u8 (Int.tdiv z1 (64 : Int))))) * 1 ≤ 70368744177664 ∧ tagLeL 0 (madeRow [int u8 0] (Int.toNat (wrap i64 (wrap i64 z1 * wrap i64 (wrap u8 (Int.tdiv z1 (64 : Int))))) * 1)) = true ∧ 5 ≤ 5 ∧ (true = true ∨ some 0 = some 0) ∧ 0 ≤ 0 ∧ 56 ≤ 70368744177664 ∧ 1 ≤ 70368744177664 ∧ true = true ∧ K normal [(0, lsl nlb 0 csb lenb cpb), (1, int i64 (wrap i64 (ps + (1 : Int)))), (2, int i64 lv), (8, rsl 0 0 1 none)] ⟨[some (AObj.cells [int u8 z3, AV.bool b4, int u32 z5, lsl false 0 (madeRow [int u8 0] (Int.toNat (wrap i64 (wrap i64 z1 * wrap i64 (wrap u8 (Int.tdiv z1 (64 : Int))))) * 1)) (Int.toNat (wrap i64 (wrap i64 z1 * wrap i64 (wrap u8 (Int.tdiv z1 (64 : Int)))))) (some (Int.toNat (wrap i64 (wrap i64 z1 * wrap i64 (wrap u8 (Int.tdiv z1 (64 : Int))))))), nilS] 32 true)], 0⟩)) ((0 : Int) ≤ wrap i64 (wrap i64 z1 * wrap i64 (wrap u8 (Int.tdiv z1 (64 : Int)))) ∧ wrap i64 (wrap i64 z1 * wrap i64 (wrap u8 (Int.tdiv z1 (64 : Int)))) ≤ wrap i64 (wrap i64 z1 * wrap i64 (wrap u8 (Int.tdiv z1 (64 : Int)))) ∧ wrap i64 (wrap i64 z1 * wrap i64 (wrap u8 (Int.tdiv z1 (64 : Int)))) ≤ (70368744177664 : Int) ∧ Int.toNat (wrap i64 (wrap i64 z1 * wrap i64 (wrap u8 (Int.tdiv z1 (64 : Int))))) * 1 ≤ 70368744177664 ∧ tagLeL 0 (madeRow [int u8 0] (Int.toNat (wrap i64 (wrap i64 z1 * wrap i64 (wrap u8 (Int.tdiv z1 (64 : Int))))) * 1)) = true ∧ 5 ≤ 5 ∧ (true = true ∨ some 0 = some 0) ∧ 0 ≤ 0 ∧ 56 ≤ 70368744177664 ∧ 1 ≤ 70368744177664 ∧ true = true ∧ K normal [(0, lsl nlb 0 csb lenb cpb), (1, int i64 (wrap i64 (ps + (1 : Int)))), (2, int i64 lv), (8, rsl 0 0 1 none)] ⟨[some (AObj.cells [int u8 z3, AV.bool b4, int u32 z5, lsl false 0 (madeRow [int u8 0] (Int.toNat (wrap i64 (wrap i64 z1 * wrap i64 (wrap u8 (Int.tdiv z1 (64 : Int))))) * 1)) (Int.toNat (wrap i64 (wrap i64 z1 * wrap i64 (wrap u8 (Int.tdiv z1 (64 : Int)))))) (some (Int.toNat (wrap i64 (wrap i64 z1 * wrap i64 (wrap u8 (Int.tdiv z1 (64 : Int))))))), nilS] 32 true)], 0⟩))))) (K (exit 0) [(1, int i64 ps), (6, any), (7, any), (8, nilS)] ⟨[], 0⟩)) (K (exit 0) [(1, int i64 ps), (6, any), (7, any), (8, nilS)] ⟨[], 0⟩)) := by kernel_rfl
abbrev tb_r53 : List (FuncId × Sc) := [(53, { ops := [(2, [(4, Kd.b)]), (3, [(2, Kd.w)]), (11, [(4, Kd.b)]), (12, [(0, Kd.fz)]), (13, [(4, Kd.b)]), (14, [(2, Kd.fz)]), (15, [(6, Kd.fw)]), (16, [(3, Kd.w)])], lax := [1032] })]
theorem r53 (ps lv : Int) (nlb : Bool) (lenb m : Nat) (csb cso : List AV) (cpb : Option Nat) (K : AExit → List (Nat × AV) → St → Prop) : (roundT Tryd.prog env tb_r53 53 (bodyL Tryd.f53 0) 0 87 [0, 1, 2, 8] [1, 6, 7, 8] [(0, lsl nlb 0 csb lenb cpb), (1, int i64 ps), (2, int i64 lv), (8, rsl 0 0 m none)] ⟨[some (AObj.cells cso 32 true)], 0⟩ K) =
    (br (decide (ps < (↑lenb : Int))) (br (decide (ps < (40 : Int))) (nlb = false ∧ (0 : Int) ≤ ps ∧ ps < (↑lenb : Int) ∧ ∃ z1 cs2, List.drop (Int.toNat ps * 1) csb = int u8 z1 :: cs2 ∧ br (Int.tmod z1 (16 : Int) == (15 : Int)) (tagLeL 0 cso = true ∧ K AExit.ret [(1, int i64 (wrap i64 (ps + (1 : Int)))), (6, rsl 0 0 m none), (7, int i64 (wrap i64 (ps + (1 : Int)))), (8, rsl 0 0 m none)] ⟨[some (AObj.cells cso 32 true)], 0⟩) (∃ z3 b4 z5, Sm 54 [int u8 z1] ((agg [int u8 z3, AV.bool b4, int u32 z5])) ∧ br b4 (br (lv == (5 : Int)) (tagLeL 0 cso = true ∧ K normal [(0, lsl nlb 0 csb lenb cpb), (1, int i64 (wrap i64 (ps + (1 : Int)))), (2, int i64 lv), (8, rsl 0 0 m none)] ⟨[some (AObj.cells cso 32 true)], 0⟩) (∃ b6 cs7 n8 cp9 z10, Sm 53 [lsl nlb 0 csb lenb cpb, int i64 (wrap i64 (ps + (1 : Int))), int i64 (wrap i64 (lv + (1 : Int)))] ((tup [lsl b6 0 cs7 n8 cp9, int i64 z10])) ∧ 5 ≤ 5 ∧ List.length cso = m * 5 ∧ (m + 1) * 56 ≤ 70368744177664 ∧ m + 1 ≤ 70368744177664 ∧ tagLeL 0 (cso ++ [int u8 z3, AV.bool b4, int u32 z5, nilS, lsl b6 0 cs7 n8 cp9]) = true ∧ K normal [(0, lsl nlb 0 csb lenb cpb), (1, int i64 z10), (2, int i64 lv), (8, rsl 0 0 (m + 1) none)] ⟨[some (AObj.cells (cso ++ [int u8 z3, AV.bool b4, int u32 z5, nilS, lsl b6 0 cs7 n8 cp9]) 32 true)], 0⟩)) (br (z3 == (0 : Int)) (br (z5 == (1 : Int)) (5 ≤ 5 ∧ List.length cso = m * 5 ∧ (m + 1) * 56 ≤ 70368744177664 ∧ m + 1 ≤ 70368744177664 ∧ tagLeL 0 (cso ++ [int u8 z3, AV.bool b4, int u32 z5, lsl false 0 [int u8 255] 1 (some 1), nilS]) = true ∧ K normal [(0, lsl nlb 0 csb lenb cpb), (1, int i64 (wrap i64 (ps + (1 : Int)))), (2, int i64 lv), (8, rsl 0 0 (m + 1) none)] ⟨[some (AObj.cells (cso ++ [int u8 z3, AV.bool b4, int u32 z5, lsl false 0 [int u8 255] 1 (some 1), nilS]) 32 true)], 0⟩) (br (z3 == (0 : Int)) (br (z5 == (2 : Int)) (5 ≤ 5 ∧ List.length cso = m * 5 ∧ (m + 1) * 56 ≤ 70368744177664 ∧ m + 1 ≤ 70368744177664 ∧ tagLeL 0 (cso ++ [int u8 z3, AV.bool b4, int u32 z5, lsl false 0 [int u8 (wrap u8 (Int.tdiv z1 (8 : Int)))] 1 (some 1), nilS]) = true ∧ K normal [(0, lsl nlb 0 csb lenb cpb), (1, int i64 (wrap i64 (ps + (1 : Int)))), (2, int i64 lv), (8, rsl 0 0 (m + 1) none)] ⟨[some (AObj.cells (cso ++ [int u8 z3, AV.bool b4, int u32 z5, lsl false 0 [int u8 (wrap u8 (Int.tdiv z1 (8 : Int)))] 1 (some 1), nilS]) 32 true)], 0⟩) ((0 : Int) ≤ wrap i64 (wrap i64 z1 * wrap i64 (wrap u8 (Int.tdiv z1 (64 : Int)))) ∧ wrap i64 (wrap i64 z1 * wrap i64 (wrap u8 (Int.tdiv z1 (64 : Int)))) ≤ wrap i64 (wrap i64 z1 * wrap i64 (wrap u8 (Int.tdiv z1 (64 : Int)))) ∧ wrap i64 (wrap i64 z1 * wrap i64 (wrap u8 (Int.tdiv z1 (64 : Int)))) ≤ (70368744177664 : Int) ∧ Int.toNat (wrap i64 (wrap i64 z1 * wrap i64 (wrap u8 (Int.tdiv z1 (64 : Int))))) * 1 ≤ 70368744177664 ∧ tagLeL 0 (madeRow [int u8 0] (Int.toNat (wrap i64 (wrap i64 z1 * wrap i64 (wrap u8 (Int.tdiv z1 (64 : Int))))) * 1)) = true ∧ 5 ≤ 5 ∧ List.length cso = m * 5 ∧ (m + 1) * 56 ≤ 70368744177664 ∧ m + 1 ≤ 70368744177664 ∧ tagLeL 0 (cso ++ [int u8 z3, AV.bool b4, int u32 z5, lsl false 0 (madeRow [int u8 0] (Int.toNat (wrap i64 (wrap i64 z1 * wrap i64 (wrap u8 (Int.tdiv z1 (64 : Int))))) * 1)) (Int.toNat (wrap i64 (wrap i64 z1 * wrap i64 (wrap u8 (Int.tdiv z1 (64 : Int)))))) (some (Int.toNat (wrap i64 (wrap i64 z1 * wrap i64 (wrap u8 (Int.tdiv z1 (64 : Int))))))), nilS]) = true ∧ K normal [(0, lsl nlb 0 csb lenb cpb), (1, int i64 (wrap i64 (ps + (1 : Int)))), (2, int i64 lv), (8, rsl 0 0 (m + 1) none)] ⟨[some (AObj.cells (cso ++ [int u8 z3, AV.bool b4, int u32 z5, lsl false 0 (madeRow [int u8 0] (Int.toNat (wrap i64 (wrap i64 z1 * wrap i64 (wrap u8 (Int.tdiv z1 (64 : Int))))) * 1)) (Int.toNat (wrap i64 (wrap i64 z1 * wrap i64 (wrap u8 (Int.tdiv z1 (64 : Int)))))) (some (Int.toNat (wrap i64 (wrap i64 z1 * wrap i64 (wrap u8 (Int.tdiv z1 (64 : Int))))))), nilS]) 32 true)], 0⟩)) ((0 : Int) ≤ wrap i64 (wrap i64 z1 * wrap i64 (wrap u8 (Int.tdiv z1 (64 : Int)))) ∧ wrap i64 (wrap i64 z1 * wrap i64 (wrap u8 (Int.tdiv z1 (64 : Int)))) ≤ wrap i64 (wrap i64 z1 * wrap i64 (wrap u8 (Int.tdiv z1 (64 : Int)))) ∧ wrap i64 (wrap i64 z1 * wrap i64 (wrap u8 (Int.tdiv z1 (64 : Int)))) ≤ (70368744177664 : Int) ∧ Int.toNat (wrap i64 (wrap i64 z1 * wrap i64 (wrap u8 (Int.tdiv z1 (64 : Int))))) * 1 ≤ 70368744177664 ∧ tagLeL 0 (madeRow [int u8 0] (Int.toNat (wrap i64 (wrap i64 z1 * wrap i64 (wrap u8 (Int.tdiv z1 (64 : Int))))) * 1)) = true ∧ 5 ≤ 5 ∧ List.length cso = m * 5 ∧ (m + 1) * 56 ≤ 70368744177664 ∧ m + 1 ≤ 70368744177664 ∧ tagLeL 0 (cso ++ [int u8 z3, AV.bool b4, int u32 z5, lsl false 0 (madeRow [int u8 0] (Int.toNat (wrap i64 (wrap i64 z1 * wrap i64 (wrap u8 (Int.tdiv z1 (64 : Int))))) * 1)) (Int.toNat (wrap i64 (wrap i64 z1 * wrap i64 (wrap u8 (Int.tdiv z1 (64 : Int)))))) (some (Int.toNat (wrap i64 (wrap i64 z1 * wrap i64 (wrap u8 (Int.tdiv z1 (64 : Int))))))), nilS]) = true ∧ K normal [(0, lsl nlb 0 csb lenb cpb), (1, int i64 (wrap i64 (ps + (1 : Int)))), (2, int i64 lv), (8, rsl 0 0 (m + 1) none)] ⟨[some (AObj.cells (cso ++ [int u8 z3, AV.bool b4, int u32 z5, lsl false 0 (madeRow [int u8 0] (Int.toNat (wrap i64 (wrap i64 z1 * wrap i64 (wrap u8 (Int.tdiv z1 (64 : Int))))) * 1)) (Int.toNat (wrap i64 (wrap i64 z1 * wrap i64 (wrap u8 (Int.tdiv z1 (64 : Int)))))) (some (Int.toNat (wrap i64 (wrap i64 z1 * wrap i64 (wrap u8 (Int.tdiv z1 (64 : Int))))))), nilS]) 32 true)], 0⟩))) (br (z3 == (0 : Int)) (br (z5 == (2 : Int)) (5 ≤ 5 ∧ List.length cso = m * 5 ∧ (m + 1) * 56 ≤ 70368744177664 ∧ m + 1 ≤ 70368744177664 ∧ tagLeL 0 (cso ++ [int u8 z3, AV.bool b4, int u32 z5, lsl false 0 [int u8 (wrap u8 (Int.tdiv z1 (8 : Int)))] 1 (some 1), nilS]) = true ∧ K normal [(0, lsl nlb 0 csb lenb cpb), (1, int i64 (wrap i64 (ps + (1 : Int)))), (2, int i64 lv), (8, rsl 0 0 (m + 1) none)] ⟨[some (AObj.cells (cso ++ [int u8 z3, AV.bool b4, int u32 z5, lsl false 0 [int u8 (wrap u8 (Int.tdiv z1 (8 : Int)))] 1 (some 1), nilS]) 32 true)], 0⟩) ((0 : Int) ≤ wrap i64 (wrap i64 z1 * wrap i64 (wrap u8 (Int.tdiv z1 (64 : Int)))) ∧ wrap i64 (wrap i64 z1 * wrap i64 (wrap u8 (Int.tdiv z1 (64 : Int)))) ≤ wrap i64 (wrap i64 z1 * wrap i64 (wrap u8 (Int.tdiv z1 (64 : Int)))) ∧ wrap i64 (wrap i64 z1 * wrap i64 (wrap u8 (Int.tdiv z1 (64 : Int)))) ≤ (70368744177664 : Int) ∧ Int.toNat (wrap i64 (wrap i64 z1 * wrap i64 (wrap u8 (Int.tdiv z1 (64 : Int))))) * 1 ≤ 70368744177664 ∧ tagLeL 0 (madeRow [int u8 0] (Int.toNat (wrap i64 (wrap i64 z1 * wrap i64 (wrap u8 (Int.tdiv z1 (64 : Int))))) * 1)) = true ∧ 5 ≤ 5 ∧ List.length cso = m * 5 ∧ (m + 1) * 56 ≤ 70368744177664 ∧ m + 1 ≤ 70368744177664 ∧ tagLeL 0 (cso ++ [int u8 z3, AV.bool b4, int u32 z5, lsl false 0 (madeRow [int u8 0] (Int.toNat (wrap i64 (wrap i64 z1 * wrap i64 (wrap u8 (Int.tdiv z1 (64 : Int))))) * 1)) (Int.toNat (wrap i64 (wrap i64 z1 * wrap i64 (wrap u8 (Int.tdiv z1 (64 : Int)))))) (some (Int.toNat (wrap i64 (wrap i64 z1 * wrap i64 (wrap u8 (Int.tdiv z1 (64 : Int))))))), nilS]) = true ∧ K normal [(0, lsl nlb 0 csb lenb cpb), (1, int i64 (wrap i64 (ps + (1 : Int)))), (2, int i64 lv), (8, rsl 0 0 (m + 1) none)] ⟨[some (AObj.cells (cso ++ [int u8 z3, AV.bool b4, int u32 z5, lsl false 0 (madeRow [int u8 0] (Int.toNat (wrap i64 (wrap i64 z1 * wrap i64 (wrap u8 (Int.tdiv z1 (64 : Int))))) * 1)) (Int.toNat (wrap i64 (wrap i64 z1 * wrap i64 (wrap u8 (Int.tdiv z1 (64 : Int)))))) (some (Int.toNat (wrap i64 (wrap i64 z1 * wrap i64 (wrap u8 (Int.tdiv z1 (64 : Int))))))), nilS]) 32 true)], 0⟩)) ((0 : Int) ≤ wrap i64 (wrap i64 z1 * wrap i64 (wrap u8 (Int.tdiv z1 (64 : Int)))) ∧ wrap i64 (wrap i64 z1 * wrap i64 (wrap u8 (Int.tdiv z1 (64 : Int)))) ≤ wrap i64 (wrap i64 z1 * wrap i64 (wrap u8 (Int.tdiv z1 (64 : Int)))) ∧ wrap i64 (wrap i64 z1 * wrap i64 (wrap u8 (Int.tdiv z1 (64 : Int)))) ≤ (70368744177664 : Int) ∧ Int.toNat (wrap i64 (wrap i64 z1 * wrap i64 (wrap u8 (Int.tdiv z1 (64 : Int))))) * 1 ≤ 70368744177664 ∧ tagLeL 0 (madeRow [int u8 0] (Int.toNat (wrap i64 (wrap i64 z1 * wrap i64 (wrap u8 (Int.tdiv z1 (64 : Int))))) * 1)) = true ∧ 5 ≤ 5 ∧ List.length cso = m * 5 ∧ (m + 1) * 56 ≤ 70368744177664 ∧ m + 1 ≤ 70368744177664 ∧ tagLeL 0 (cso ++ [int u8 z3, AV.bool b4, int u32 z5, lsl false 0 (madeRow [int u8 0] (Int.toNat (wrap i64 (wrap i64 z1 * wrap i64 (wrap u8 (Int.tdiv z1 (64 : Int))))) * 1)) (Int.toNat (wrap i64 (wrap i64 z1 * wrap i64 (wrap u8 (Int.tdiv z1 (64 : Int)))))) (some (Int.toNat (wrap i64 (wrap i64 z1 * wrap i64 (wrap u8 (Int.tdiv z1 (64 : Int))))))), nilS]) = true ∧ K normal [(0, lsl nlb 0 csb lenb cpb), (1, int i64 (wrap i64 (ps + (1 : Int)))), (2, int i64 lv), (8, rsl 0 0 (m + 1) none)] ⟨[some (AObj.cells (cso ++ [int u8 z3, AV.bool b4, int u32 z5, lsl false 0 (madeRow [int u8 0] (Int.toNat (wrap i64 (wrap i64 z1 * wrap i64 (wrap u8 (Int.tdiv z1 (64 : Int))))) * 1)) (Int.toNat (wrap i64 (wrap i64 z1 * wrap i64 (wrap u8 (Int.tdiv z1 (64 : Int)))))) (some (Int.toNat (wrap i64 (wrap i64 z1 * wrap i64 (wrap u8 (Int.tdiv z1 (64 : Int))))))), nilS]) 32 true)], 0⟩))))) (tagLeL 0 cso = true ∧ K (exit 0) [(1, int i64 ps), (6, any), (7, any), (8, rsl 0 0 m none)] ⟨[some (AObj.cells cso 32 true)], 0⟩)) (tagLeL 0 cso = true ∧ K (exit 0) [(1, int i64 ps), (6, any), (7, any), (8, rsl 0 0 m none)] ⟨[some (AObj.cells cso 32 true)], 0⟩)) := by kernel_rfl
theorem vc53 (ps lv : Int) (nlb : Bool) (lenb : Nat) (csb : List AV) (cpb : Option Nat) (K : AOut → Prop) : (dataT Tryd.prog env [(53, { loops := [(0, LoopS.inv [0, 1, 2, 8] fun vs σ => Sh.int fun a => Sh.or (Sh.one (exit 0, [(1, int i64 a), (8, nilS)], ⟨[], 0⟩)) (Sh.or (Sh.nat fun m => Sh.cells fun cs => Sh.one (exit 0, [(1, int i64 a), (8, rsl 0 0 m none)], ⟨[some (AObj.cells cs 32 true)], 0⟩)) (Sh.or (Sh.one (AExit.ret, [(6, nilS), (7, int i64 a)], ⟨[], 0⟩)) (Sh.nat fun m => Sh.cells fun cs => Sh.one (AExit.ret, [(6, rsl 0 0 m none), (7, int i64 a)], ⟨[some (AObj.cells cs 32 true)], 0⟩)))))], lax := [1032] })] 53 [lsl nlb 0 csb lenb cpb, int i64 ps, int i64 lv] K) =
    (∃ z1, Cd 0 (Code.loop (bodyL Tryd.f53 0)) (frOf 87 [(0, lsl nlb 0 csb lenb cpb), (1, int i64 ps), (2, int i64 lv), (8, nilS)]) ⟨[], 0⟩ (exit 0) (frOf 87 [(1, int i64 z1), (8, nilS)]) ⟨[], 0⟩ ∧ K (AOut.ret (tup [nilS, int i64 z1])) ∨ (∃ n2 cs3, Cd 0 (Code.loop (bodyL Tryd.f53 0)) (frOf 87 [(0, lsl nlb 0 csb lenb cpb), (1, int i64 ps), (2, int i64 lv), (8, nilS)]) ⟨[], 0⟩ (exit 0) (frOf 87 [(1, int i64 z1), (8, rsl 0 0 n2 none)]) ⟨[some (AObj.cells cs3 32 true)], 0⟩ ∧ tagLeL 0 cs3 = true ∧ K (AOut.ret (tup [lsl false 0 cs3 n2 none, int i64 z1]))) ∨ Cd 0 (Code.loop (bodyL Tryd.f53 0)) (frOf 87 [(0, lsl nlb 0 csb lenb cpb), (1, int i64 ps), (2, int i64 lv), (8, nilS)]) ⟨[], 0⟩ AExit.ret (frOf 87 [(6, nilS), (7, int i64 z1)]) ⟨[], 0⟩ ∧ K (AOut.ret (tup [nilS, int i64 z1])) ∨ ∃ n4 cs5, Cd 0 (Code.loop (bodyL Tryd.f53 0)) (frOf 87 [(0, lsl nlb 0 csb lenb cpb), (1, int i64 ps), (2, int i64 lv), (8, nilS)]) ⟨[], 0⟩ AExit.ret (frOf 87 [(6, rsl 0 0 n4 none), (7, int i64 z1)]) ⟨[some (AObj.cells cs5 32 true)], 0⟩ ∧ tagLeL 0 cs5 = true ∧ K (AOut.ret (tup [lsl false 0 cs5 n4 none, int i64 z1]))) := by kernel_rfl
end

/-! the tags and elements that codes describe -/
def tagM (n : Int) : Int × Bool × Int :=
  if n % 8 = 0 then (0, true, 16) else if n % 8 = 1 then (0, true, 17) else if n % 8 = 2 then (2, true, n / 8 % 4 * 12) else if n % 8 = 3 then (2, false, n / 8 % 4) else if n % 8 = 4 then (0, false, 1) else if n % 8 = 5 then (0, false, 4) else (0, false, 2)

theorem wrap_u8 {x : Int} (h0 : 0 ≤ x) (h1 : x < 256) : IntKind.u8.wrap x = x := by
  simp [IntKind.wrap, IntKind.bits, IntKind.signed]; omega
theorem wrap_u32 {x : Int} (h0 : 0 ≤ x) (h1 : x < 4294967296) : IntKind.u32.wrap x = x := by
  simp [IntKind.wrap, IntKind.bits, IntKind.signed]; omega

theorem sum54 {n : Int} (h0 : 0 ≤ n) (h1 : n < 256) : Sm 54 [.int .u8 n] (.agg [.int .u8 (tagM n).1, .bool (tagM n).2.1, .int .u32 (tagM n).2.2]) := by
  have e1 : n.tmod 8 = n % 8 := Int.tmod_eq_emod_of_nonneg h0
  have e2 : n.tdiv 8 = n / 8 := Int.tdiv_eq_ediv_of_nonneg h0
  have e3 : IntKind.u8.wrap (n / 8) = n / 8 := wrap_u8 (by omega) (by omega)
  have e4 : (n / 8).tmod 4 = n / 8 % 4 := Int.tmod_eq_emod_of_nonneg (by omega)
  have e5 : IntKind.u32.wrap (n / 8 % 4) = n / 8 % 4 := wrap_u32 (by omega) (by omega)
  have e6 : IntKind.u32.wrap (n / 8 % 4 * 12) = n / 8 % 4 * 12 := wrap_u32 (by omega) (by omega)
  refine sum_vc (vc54 ..) ?_
  rw [e1, e2, e3, e4, e5, e6]
  unfold tagM
  refine br_i (fun h => ?_) (fun h => ?_)
  · simp only [beq_iff_eq] at h; rw [if_pos h]
  simp only [beq_eq_false_iff_ne, ne_eq] at h
  rw [if_neg h]
  refine br_i (fun h => ?_) (fun h => ?_)
  · simp only [beq_iff_eq] at h; rw [if_pos h]
  simp only [beq_eq_false_iff_ne, ne_eq] at h
  rw [if_neg h]
  refine br_i (fun h => ?_) (fun h => ?_)
  · simp only [beq_iff_eq] at h; rw [if_pos h]
  simp only [beq_eq_false_iff_ne, ne_eq] at h
  rw [if_neg h]
  refine br_i (fun h => ?_) (fun h => ?_)
  · simp only [beq_iff_eq] at h; rw [if_pos h]
  simp only [beq_eq_false_iff_ne, ne_eq] at h
  rw [if_neg h]
  refine br_i (fun h => ?_) (fun h => ?_)
  · simp only [beq_iff_eq] at h; rw [if_pos h]
  simp only [beq_eq_false_iff_ne, ne_eq] at h
  rw [if_neg h]
  refine br_i (fun h => ?_) (fun h => ?_)
  · simp only [beq_iff_eq] at h; rw [if_pos h]
  simp only [beq_eq_false_iff_ne, ne_eq] at h
  rw [if_neg h]

def bytM (c : Int) : List Int := if (tagM c).1 = 0 ∧ (tagM c).2.2 = 1 then [255] else if (tagM c).1 = 0 ∧ (tagM c).2.2 = 2 then [c / 8] else List.replicate (c * (c / 64)).toNat 0

/-- The elements that codes from an index on describe, and the index after them. -/
def bld : Nat → List Int → Nat → Int → List El × Nat
  | 0, _, a, _ => ([], a)
  | f + 1, code, a, lv =>
    match code[a]? with
    | none => ([], a)
    | some c => if 40 ≤ a then ([], a) else if c % 16 = 15 then ([], a + 1) else
      if (tagM c).2.1 = true then
        if lv = 5 then bld f code (a + 1) lv
        else let r := bld f code (a + 1) (lv + 1); let q := bld f code r.2 lv; (.mk (tagM c).1 true (tagM c).2.2 [] r.1 :: q.1, q.2)
      else let q := bld f code (a + 1) lv; (.mk (tagM c).1 false (tagM c).2.2 (bytM c) [] :: q.1, q.2)

theorem bld_le : ∀ (f : Nat) (code : List Int) (a : Nat) (lv : Int), a ≤ (bld f code a lv).2 ∧ (bld f code a lv).1.length + a ≤ (bld f code a lv).2 ∧ (bld f code a lv).2 ≤ max a 40
  | 0, _, a, _ => by simp only [bld, List.length_nil]; omega
  | f + 1, code, a, lv => by
    unfold bld
    split
    · simp only [List.length_nil]; omega
    rename_i c _
    split
    · simp only [List.length_nil]; omega
    split
    · simp only [List.length_nil]; omega
    split
    · split
      · have := bld_le f code (a + 1) lv; omega
      · have h1 := bld_le f code (a + 1) (lv + 1)
        have h2 := bld_le f code (bld f code (a + 1) (lv + 1)).2 lv
        simp only [List.length_cons]
        omega
    · have := bld_le f code (a + 1) lv
      simp only [List.length_cons]
      omega

theorem bld_stab : ∀ (f : Nat) (code : List Int) (a : Nat) (lv : Int), 41 - a ≤ f → bld f code a lv = bld (41 - a) code a lv := by
  intro f
  induction f using Nat.strongRecOn with
  | _ f ih =>
    intro code a lv hf
    match f, ih, hf with
    | 0, _, hf => rw [show 41 - a = 0 by omega]
    | f + 1, ih, hf =>
      by_cases ha : a ≤ 40
      · rw [show 41 - a = (40 - a) + 1 by omega]
        unfold bld
        split
        · rfl
        split
        · rfl
        split
        · rfl
        have e1 : ∀ lv, bld f code (a + 1) lv = bld (40 - a) code (a + 1) lv := fun lv => by
          rw [ih f (by omega) code (a + 1) lv (by omega), show 41 - (a + 1) = 40 - a by omega]
        split
        · split
          · exact e1 lv
          · simp only [e1]
            have hle := (bld_le (40 - a) code (a + 1) (lv + 1)).1
            rw [ih f (by omega) code (bld (40 - a) code (a + 1) (lv + 1)).2 lv (by omega)]
            rw [ih (40 - a) (by omega) code (bld (40 - a) code (a + 1) (lv + 1)).2 lv (by omega)]
        · simp only [e1]
      · rw [show 41 - a = 0 by omega]
        unfold bld
        split
        · rfl
        · rw [if_pos (by omega)]

/-- .. with as much fuel as there can be steps. -/
def bl (code : List Int) (a : Nat) (lv : Int) : List El × Nat := bld 41 code a lv

theorem bl_eq (code : List Int) (a : Nat) (lv : Int) : bl code a lv = match code[a]? with
    | none => ([], a)
    | some c => if 40 ≤ a then ([], a) else if c % 16 = 15 then ([], a + 1) else
      if (tagM c).2.1 = true then
        if lv = 5 then bl code (a + 1) lv
        else (.mk (tagM c).1 true (tagM c).2.2 [] (bl code (a + 1) (lv + 1)).1 :: (bl code (bl code (a + 1) (lv + 1)).2 lv).1, (bl code (bl code (a + 1) (lv + 1)).2 lv).2)
      else (.mk (tagM c).1 false (tagM c).2.2 (bytM c) [] :: (bl code (a + 1) lv).1, (bl code (a + 1) lv).2) := by
  have e : ∀ a lv, bl code (a + 1) lv = bld 40 code (a + 1) lv := fun a lv => by
    unfold bl
    rw [bld_stab 41 _ _ _ (by omega), bld_stab 40 _ _ _ (by omega)]
  have e2 : ∀ lv', bl code (bl code (a + 1) (lv + 1)).2 lv' = bld 40 code (bl code (a + 1) (lv + 1)).2 lv' := fun lv' => by
    have hle := (bld_le 41 code (a + 1) (lv + 1)).1
    unfold bl
    rw [bld_stab 41 _ _ _ (by omega), bld_stab 40 _ _ _ (by omega)]
  rw [e2, e, e]
  show bld 41 code a lv = _
  rw [bld]

/-- A slice of elements, as data. -/
def SE (els : List El) (v : AV) : Prop := ∃ nl cs cap, v = .lsl nl 0 cs els.length cap ∧ capOk els.length cap ∧ els.length < 2 ^ 48 ∧ (nl = true → els = []) ∧ ElsA els cs

theorem se_nil : SE [] nilS := ⟨true, [], some 0, rfl, capOk_some, by simp, fun _ => rfl, by simp only [ElsA]⟩

theorem elA_cells {c : Int} {k : Bool} {n : Int} {bs : List Int} {subs : List El} {b s : AV} (hb : SI .u8 bs b) (hs : SE subs s) : ElA (.mk c k n bs subs) [.int .u8 c, .bool k, .int .u32 n, b, s] := by
  obtain ⟨nl, cs, cap, rfl, h1, h2, h3, h4⟩ := hs
  simp only [ElA]
  exact ⟨b, nl, cs, cap, rfl, hb, h1, h2, h3, h4⟩

theorem madeRow_u8 (n : Nat) : madeRow [.int .u8 0] n = (List.replicate n (0 : Int)).map (AV.int .u8) := madeRow_zero n

def P53 (code : List Int) (b : AV) (a : Nat) : Prop := ∀ lv : Int, 0 ≤ lv → lv ≤ 5 → ∃ v, SE (bl code a lv).1 v ∧ Sm 53 [b, .int .i64 a, .int .i64 lv] (.tup [v, .int .i64 (bl code a lv).2])

/-- What the loop has so far: nothing, or an own object that grows. -/
def Acc (acc : List El) (v : AV) (os : List (Option AObj)) : Prop :=
  (acc = [] ∧ v = nilS ∧ os = []) ∨ ∃ cs, v = .rsl 0 0 acc.length none ∧ os = [some (.cells cs 32 true)] ∧ ElsA acc cs ∧ cs.length = acc.length * 5 ∧ tagLeL 0 cs = true


theorem Acc.snoc_n {e : El} {ce : List AV} (he : ElA e ce) : Acc [e] (.rsl 0 0 1 none) [some (.cells ce 32 true)] :=
  .inr ⟨ce, rfl, rfl, by simp only [ElsA]; exact ⟨ce, [], by simp, he, trivial⟩, by rw [he.len]; rfl, he.tag⟩
theorem Acc.snoc_g {acc : List El} {cs : List AV} {e : El} {ce : List AV} (ha : ElsA acc cs) (hl : cs.length = acc.length * 5) (ht : tagLeL 0 cs = true) (he : ElA e ce) :
    tagLeL 0 (cs ++ ce) = true ∧ Acc (acc ++ [e]) (.rsl 0 0 (acc.length + 1) none) [some (.cells (cs ++ ce) 32 true)] := by
  have h1 : tagLeL 0 (cs ++ ce) = true := by rw [tagLeL_append, ht, he.tag]; rfl
  refine ⟨h1, .inr ⟨cs ++ ce, by simp, rfl, ?_, by rw [List.length_append, hl, he.len, List.length_append]; simp; omega, h1⟩⟩
  have := ha.snoc hl he (r := [])
  simpa using this

/-- What the loop ends with. -/
def Q53 (R : List El × Nat) (ae : AExit) (kvs' : List (Nat × AV)) (σ' : St) : Prop := ∃ v os, Acc R.1 v os ∧ σ' = ⟨os, 0⟩ ∧ (ae = .exit 0 ∧ kvs' = [(1, .int .i64 (R.2 : Nat)), (6, .any), (7, .any), (8, v)] ∨ ae = .ret ∧ kvs' = [(1, .int .i64 (R.2 : Nat)), (6, v), (7, .int .i64 (R.2 : Nat)), (8, v)])

theorem loop53 {code : List Int} {nlb : Bool} {exb : List AV} {cpb : Option Nat} (hbyt : Byt code) (hlen : code.length < 2 ^ 48) (hn : nlb = true → code = []) {a0 : Nat} {lv : Int} (hl0 : 0 ≤ lv) (hl5 : lv ≤ 5)
    (ih : ∀ a, a0 < a → a ≤ 40 → P53 code (.lsl nlb 0 (code.map (AV.int .u8) ++ exb) code.length cpb) a) :
    ∀ (x : Nat × List El) (kvs : List (Nat × AV)) (σ : St), (a0 ≤ x.1 ∧ x.2.length ≤ x.1 ∧ x.1 ≤ 2 ^ 40 ∧ x.2 ++ (bl code x.1 lv).1 = (bl code a0 lv).1 ∧ (bl code x.1 lv).2 = (bl code a0 lv).2 ∧
        ∃ v os, Acc x.2 v os ∧ kvs = [(0, .lsl nlb 0 (code.map (AV.int .u8) ++ exb) code.length cpb), (1, .int .i64 x.1), (2, .int .i64 lv), (8, v)] ∧ σ = ⟨os, 0⟩) →
      ∃ ae kvs' σ', Q53 (bl code a0 lv) ae kvs' σ' ∧ Cd 0 (.loop (bodyL Tryd.f53 0)) (frOf 87 kvs) σ ae (frOf 87 kvs') σ' := by
  refine loop_by (tb := tb_r53) (f := 53) (c := bodyL Tryd.f53 0) (k := 0) (N := 87) (keepN := [0, 1, 2, 8]) (keepX := [1, 6, 7, 8]) env_ok _ _ (fun x => 2 ^ 40 - x.1) ?_
  rintro ⟨a, acc⟩ kvs σ ⟨ha0, hal, ha4, hs1, hs2, v, os, hacc, rfl, rfl⟩
  simp only at ha0 hal ha4 hs1 hs2 hacc ⊢
  have hwa : IntKind.i64.wrap ((a : Int) + 1) = ((a + 1 : Nat) : Int) := by rw [wrap_small (by omega) (by omega)]; simp
  have hwl : lv ≠ 5 → IntKind.i64.wrap (lv + 1) = lv + 1 := fun _ => wrap_small (by omega) (by omega)
  have hbl := bl_eq code a lv
  -- nothing more comes
  have hend : ∀ a', bl code a lv = ([], a') → (bl code a0 lv).1 = acc ∧ (bl code a0 lv).2 = a' := fun a' h => by
    rw [h] at hs1 hs2
    exact ⟨by rw [← hs1]; simp, hs2.symm⟩
  have hstop : ∀ (a' : Nat) (v : AV) (os : List (Option AObj)), bl code a lv = ([], a') → Acc acc v os → Q53 (bl code a0 lv) (.exit 0) [(1, .int .i64 (a' : Nat)), (6, .any), (7, .any), (8, v)] ⟨os, 0⟩ ∧ Q53 (bl code a0 lv) .ret [(1, .int .i64 (a' : Nat)), (6, v), (7, .int .i64 (a' : Nat)), (8, v)] ⟨os, 0⟩ := by
    intro a' v os h hA
    obtain ⟨h1, h2⟩ := hend a' h
    exact ⟨⟨v, os, by rw [h1]; exact hA, rfl, .inl ⟨rfl, by rw [h2]⟩⟩, ⟨v, os, by rw [h1]; exact hA, rfl, .inr ⟨rfl, by rw [h2]⟩⟩⟩
  rcases hacc with ⟨rfl, rfl, rfl⟩ | ⟨cs, rfl, rfl, hA, hAl, hAt⟩
  · change roundT _ _ tb_r53n _ _ _ _ _ _ _ _ _
    rw [r53n]
    refine br_i (fun hlt => ?_) (fun hge => ?_)
    rotate_left
    · have hge : code.length ≤ a := by have := of_decide_eq_false hge; omega
      rw [List.getElem?_eq_none hge] at hbl
      exact (hstop a _ _ hbl (.inl ⟨rfl, rfl, rfl⟩)).1
    have hlt : a < code.length := by have := of_decide_eq_true hlt; omega
    have hnl : nlb = false := by
      cases nlb
      · rfl
      · rw [hn rfl] at hlt; simp at hlt
    obtain ⟨hc0, hc1⟩ := hbyt _ (List.getElem_mem hlt)
    rw [List.getElem?_eq_getElem hlt] at hbl
    simp only at hbl
    refine br_i (fun h40 => ?_) (fun h40 => ?_)
    rotate_left
    · have h40 : 40 ≤ a := by have := of_decide_eq_false h40; omega
      rw [if_pos h40] at hbl
      exact (hstop a _ _ hbl (.inl ⟨rfl, rfl, rfl⟩)).1
    have h40 : a < 40 := by have := of_decide_eq_true h40; omega
    rw [if_neg (by omega)] at hbl
    refine ⟨hnl, by omega, by omega, _, _, by rw [Int.toNat_natCast, Nat.mul_one]; exact SI.cells_at hlt, ?_⟩
    rw [Int.tmod_eq_emod_of_nonneg hc0, hwa]
    refine br_i (fun h15 => ?_) (fun h15 => ?_)
    · rw [if_pos (by simpa using h15)] at hbl
      exact (hstop (a + 1) _ _ hbl (.inl ⟨rfl, rfl, rfl⟩)).2
    rw [if_neg (by simpa using h15)] at hbl
    refine ⟨_, _, _, sum54 hc0 hc1, br_i (fun hk => ?_) (fun hk => ?_)⟩
    · rw [if_pos hk] at hbl
      refine br_i (fun h5 => ?_) (fun h5 => ?_)
      · rw [if_pos (by simpa using h5)] at hbl
        exact ⟨(a + 1, ([] : List El)), by simp only; omega, ⟨by simp only; omega, by simp only; omega, by simp only; omega, by rw [← hbl]; exact hs1, by rw [← hbl]; exact hs2, _, _, .inl ⟨rfl, rfl, rfl⟩, rfl, rfl⟩, fun _ _ _ h => h⟩
      · have h5 : lv ≠ 5 := by simpa using h5
        rw [if_neg h5] at hbl
        obtain ⟨v1, hv1, hsm⟩ := ih (a + 1) (by omega) (by omega) (lv + 1) (by omega) (by omega)
        have hle := bld_le 41 code (a + 1) (lv + 1)
        have hle1 : a + 1 ≤ (bl code (a + 1) (lv + 1)).2 := hle.1
        have hle2 : (bl code (a + 1) (lv + 1)).2 ≤ max (a + 1) 40 := hle.2.2
        have hela := elA_cells (c := (tagM code[a]).1) (k := (tagM code[a]).2.1) (n := (tagM code[a]).2.2) si_nil0 hv1
        obtain ⟨nl1, cs1, cap1, rfl, -⟩ := hv1
        rw [hwl h5]
        refine ⟨_, _, _, _, _, hsm, by omega, .inl rfl, by omega, by omega, by omega, rfl, ((bl code (a + 1) (lv + 1)).2, [_]), by simp only; omega, ⟨by simp only; omega, by simp only [List.length_append, List.length_singleton]; omega, by simp only; omega, ?_, ?_, _, _, Acc.snoc_n hela, rfl, rfl⟩, fun _ _ _ h => h⟩
        · rw [← hs1, hbl, hk]; simp
        · rw [← hs2, hbl]
    · have hk' : ¬ (tagM code[a]).2.1 = true := by rw [hk]; simp
      rw [if_neg hk'] at hbl
      have hw8 : IntKind.u8.wrap (Int.tdiv code[a] 8) = code[a] / 8 := by rw [Int.tdiv_eq_ediv_of_nonneg hc0]; exact wrap_u8 (by omega) (by omega)
      have hw64 : IntKind.i64.wrap (IntKind.i64.wrap code[a] * IntKind.i64.wrap (IntKind.u8.wrap (Int.tdiv code[a] 64))) = code[a] * (code[a] / 64) := by
        rw [Int.tdiv_eq_ediv_of_nonneg hc0, wrap_u8 (x := code[a] / 64) (by omega) (by omega), wrap_small (x := code[a]) (by omega) (by omega), wrap_small (x := code[a] / 64) (by omega) (by omega)]
        have h1 : code[a] / 64 ≤ 3 := by omega
        have h2 : 0 ≤ code[a] / 64 := by omega
        have h3 : 0 ≤ code[a] * (code[a] / 64) := Int.mul_nonneg hc0 h2
        have h4 : code[a] * (code[a] / 64) ≤ 255 * 3 := Int.mul_le_mul (by omega) h1 h2 (by omega)
        exact wrap_small (by omega) (by omega)
      have hN : 0 ≤ code[a] * (code[a] / 64) ∧ code[a] * (code[a] / 64) ≤ 765 := by
        have h1 : code[a] / 64 ≤ 3 := by omega
        have h2 : 0 ≤ code[a] / 64 := by omega
        have h4 : code[a] * (code[a] / 64) ≤ 255 * 3 := Int.mul_le_mul (by omega) h1 h2 (by omega)
        exact ⟨Int.mul_nonneg hc0 h2, h4⟩
      rw [hw8, hw64]
      have hstep : ∀ (bs : List Int) (bv : AV), bytM code[a] = bs → SI .u8 bs bv → ElA (.mk (tagM code[a]).1 false (tagM code[a]).2.2 (bytM code[a]) []) [.int .u8 (tagM code[a]).1, .bool (tagM code[a]).2.1, .int .u32 (tagM code[a]).2.2, bv, nilS] := by
        intro bs bv hb hsi
        rw [hb, hk]
        exact elA_cells hsi se_nil
      have L1 : (tagM code[a]).1 = 0 → (tagM code[a]).2.2 = 1 → SI .u8 (bytM code[a]) (.lsl false 0 [.int .u8 255] 1 (some 1)) := fun h1 h2 => by
        unfold bytM; rw [if_pos ⟨h1, h2⟩]; exact ⟨false, [], some 1, rfl, capOk_some, by simp, by simp⟩
      have L2 : ¬ ((tagM code[a]).1 = 0 ∧ (tagM code[a]).2.2 = 1) → (tagM code[a]).1 = 0 → (tagM code[a]).2.2 = 2 → SI .u8 (bytM code[a]) (.lsl false 0 [.int .u8 (code[a] / 8)] 1 (some 1)) := fun h0 h1 h2 => by
        unfold bytM; rw [if_neg h0, if_pos ⟨h1, h2⟩]; exact ⟨false, [], some 1, rfl, capOk_some, by simp, by simp⟩
      have L3 : ¬ ((tagM code[a]).1 = 0 ∧ (tagM code[a]).2.2 = 1) → ¬ ((tagM code[a]).1 = 0 ∧ (tagM code[a]).2.2 = 2) → SI .u8 (bytM code[a]) (.lsl false 0 (madeRow [.int .u8 0] (Int.toNat (code[a] * (code[a] / 64)) * 1)) (Int.toNat (code[a] * (code[a] / 64))) (some (Int.toNat (code[a] * (code[a] / 64))))) := fun h0 h1 => by
        unfold bytM; rw [if_neg h0, if_neg h1, Nat.mul_one, madeRow_u8]
        exact ⟨false, [], some (Int.toNat (code[a] * (code[a] / 64))), by simp, by rw [List.length_replicate]; exact capOk_some, by rw [List.length_replicate]; omega, by simp⟩
      have hmr : tagLeL 0 (madeRow [.int .u8 0] (Int.toNat (code[a] * (code[a] / 64)) * 1)) = true := by rw [madeRow_u8]; exact tagLeL_map _
      refine br_i (fun h1 => br_i (fun h2 => ?_) (fun h2 => br_i (fun h3 => br_i (fun h4 => ?_) (fun h4 => ?_)) (fun h3 => ?_))) (fun h1 => br_i (fun h3 => br_i (fun h4 => ?_) (fun h4 => ?_)) (fun h3 => ?_)) <;>
        (try simp only [beq_iff_eq, beq_eq_false_iff_ne, ne_eq] at h1) <;> (try simp only [beq_iff_eq, beq_eq_false_iff_ne, ne_eq] at h2) <;> (try simp only [beq_iff_eq, beq_eq_false_iff_ne, ne_eq] at h3) <;> (try simp only [beq_iff_eq, beq_eq_false_iff_ne, ne_eq] at h4)
      · have hela := hstep _ _ rfl (L1 h1 h2)
        refine ⟨by omega, .inl rfl, by omega, by omega, by omega, rfl, (a + 1, [_]), by simp only; omega, ⟨by simp only; omega, by simp only [List.length_append, List.length_singleton]; omega, by simp only; omega, ?_, ?_, _, _, Acc.snoc_n hela, rfl, rfl⟩, fun _ _ _ h => h⟩
        · rw [← hs1, hbl]; simp
        · rw [← hs2, hbl]
      · have hela := hstep _ _ rfl (L2 (fun h => h2 h.2) h3 h4)
        refine ⟨by omega, .inl rfl, by omega, by omega, by omega, rfl, (a + 1, [_]), by simp only; omega, ⟨by simp only; omega, by simp only [List.length_append, List.length_singleton]; omega, by simp only; omega, ?_, ?_, _, _, Acc.snoc_n hela, rfl, rfl⟩, fun _ _ _ h => h⟩
        · rw [← hs1, hbl]; simp
        · rw [← hs2, hbl]
      · refine ⟨by omega, by omega, by omega, by omega, hmr, ?_⟩
        have hela := hstep _ _ rfl (L3 (fun h => h2 h.2) (fun h => h4 h.2))
        refine ⟨by omega, .inl rfl, by omega, by omega, by omega, rfl, (a + 1, [_]), by simp only; omega, ⟨by simp only; omega, by simp only [List.length_append, List.length_singleton]; omega, by simp only; omega, ?_, ?_, _, _, Acc.snoc_n hela, rfl, rfl⟩, fun _ _ _ h => h⟩
        · rw [← hs1, hbl]; simp
        · rw [← hs2, hbl]
      · exact absurd h1 h3
      · exact absurd h3 h1
      · exact absurd h3 h1
      · refine ⟨by omega, by omega, by omega, by omega, hmr, ?_⟩
        have hela := hstep _ _ rfl (L3 (fun h => h1 h.1) (fun h => h1 h.1))
        refine ⟨by omega, .inl rfl, by omega, by omega, by omega, rfl, (a + 1, [_]), by simp only; omega, ⟨by simp only; omega, by simp only [List.length_append, List.length_singleton]; omega, by simp only; omega, ?_, ?_, _, _, Acc.snoc_n hela, rfl, rfl⟩, fun _ _ _ h => h⟩
        · rw [← hs1, hbl]; simp
        · rw [← hs2, hbl]
  · rw [r53]
    refine br_i (fun hlt => ?_) (fun hge => ?_)
    rotate_left
    · have hge : code.length ≤ a := by have := of_decide_eq_false hge; omega
      rw [List.getElem?_eq_none hge] at hbl
      exact ⟨hAt, (hstop a _ _ hbl (.inr ⟨cs, rfl, rfl, hA, hAl, hAt⟩)).1⟩
    have hlt : a < code.length := by have := of_decide_eq_true hlt; omega
    have hnl : nlb = false := by
      cases nlb
      · rfl
      · rw [hn rfl] at hlt; simp at hlt
    obtain ⟨hc0, hc1⟩ := hbyt _ (List.getElem_mem hlt)
    rw [List.getElem?_eq_getElem hlt] at hbl
    simp only at hbl
    refine br_i (fun h40 => ?_) (fun h40 => ?_)
    rotate_left
    · have h40 : 40 ≤ a := by have := of_decide_eq_false h40; omega
      rw [if_pos h40] at hbl
      exact ⟨hAt, (hstop a _ _ hbl (.inr ⟨cs, rfl, rfl, hA, hAl, hAt⟩)).1⟩
    have h40 : a < 40 := by have := of_decide_eq_true h40; omega
    rw [if_neg (by omega)] at hbl
    refine ⟨hnl, by omega, by omega, _, _, by rw [Int.toNat_natCast, Nat.mul_one]; exact SI.cells_at hlt, ?_⟩
    rw [Int.tmod_eq_emod_of_nonneg hc0, hwa]
    refine br_i (fun h15 => ?_) (fun h15 => ?_)
    · rw [if_pos (by simpa using h15)] at hbl
      exact ⟨hAt, (hstop (a + 1) _ _ hbl (.inr ⟨cs, rfl, rfl, hA, hAl, hAt⟩)).2⟩
    rw [if_neg (by simpa using h15)] at hbl
    refine ⟨_, _, _, sum54 hc0 hc1, br_i (fun hk => ?_) (fun hk => ?_)⟩
    · rw [if_pos hk] at hbl
      refine br_i (fun h5 => ?_) (fun h5 => ?_)
      · rw [if_pos (by simpa using h5)] at hbl
        refine ⟨hAt, ?_⟩
        exact ⟨(a + 1, acc), by simp only; omega, ⟨by simp only; omega, by simp only; omega, by simp only; omega, by rw [← hbl]; exact hs1, by rw [← hbl]; exact hs2, _, _, .inr ⟨cs, rfl, rfl, hA, hAl, hAt⟩, rfl, rfl⟩, fun _ _ _ h => h⟩
      · have h5 : lv ≠ 5 := by simpa using h5
        rw [if_neg h5] at hbl
        obtain ⟨v1, hv1, hsm⟩ := ih (a + 1) (by omega) (by omega) (lv + 1) (by omega) (by omega)
        have hle := bld_le 41 code (a + 1) (lv + 1)
        have hle1 : a + 1 ≤ (bl code (a + 1) (lv + 1)).2 := hle.1
        have hle2 : (bl code (a + 1) (lv + 1)).2 ≤ max (a + 1) 40 := hle.2.2
        have hela := elA_cells (c := (tagM code[a]).1) (k := (tagM code[a]).2.1) (n := (tagM code[a]).2.2) si_nil0 hv1
        obtain ⟨nl1, cs1, cap1, rfl, -⟩ := hv1
        rw [hwl h5]
        refine ⟨_, _, _, _, _, hsm, by omega, hAl, by omega, by omega, (Acc.snoc_g hA hAl hAt hela).1, ((bl code (a + 1) (lv + 1)).2, acc ++ [_]), by simp only; omega, ⟨by simp only; omega, by simp only [List.length_append, List.length_singleton]; omega, by simp only; omega, ?_, ?_, _, _, (Acc.snoc_g hA hAl hAt hela).2, rfl, rfl⟩, fun _ _ _ h => h⟩
        · rw [← hs1, hbl, hk]; simp
        · rw [← hs2, hbl]
    · have hk' : ¬ (tagM code[a]).2.1 = true := by rw [hk]; simp
      rw [if_neg hk'] at hbl
      have hw8 : IntKind.u8.wrap (Int.tdiv code[a] 8) = code[a] / 8 := by rw [Int.tdiv_eq_ediv_of_nonneg hc0]; exact wrap_u8 (by omega) (by omega)
      have hw64 : IntKind.i64.wrap (IntKind.i64.wrap code[a] * IntKind.i64.wrap (IntKind.u8.wrap (Int.tdiv code[a] 64))) = code[a] * (code[a] / 64) := by
        rw [Int.tdiv_eq_ediv_of_nonneg hc0, wrap_u8 (x := code[a] / 64) (by omega) (by omega), wrap_small (x := code[a]) (by omega) (by omega), wrap_small (x := code[a] / 64) (by omega) (by omega)]
        have h1 : code[a] / 64 ≤ 3 := by omega
        have h2 : 0 ≤ code[a] / 64 := by omega
        have h3 : 0 ≤ code[a] * (code[a] / 64) := Int.mul_nonneg hc0 h2
        have h4 : code[a] * (code[a] / 64) ≤ 255 * 3 := Int.mul_le_mul (by omega) h1 h2 (by omega)
        exact wrap_small (by omega) (by omega)
      have hN : 0 ≤ code[a] * (code[a] / 64) ∧ code[a] * (code[a] / 64) ≤ 765 := by
        have h1 : code[a] / 64 ≤ 3 := by omega
        have h2 : 0 ≤ code[a] / 64 := by omega
        have h4 : code[a] * (code[a] / 64) ≤ 255 * 3 := Int.mul_le_mul (by omega) h1 h2 (by omega)
        exact ⟨Int.mul_nonneg hc0 h2, h4⟩
      rw [hw8, hw64]
      have hstep : ∀ (bs : List Int) (bv : AV), bytM code[a] = bs → SI .u8 bs bv → ElA (.mk (tagM code[a]).1 false (tagM code[a]).2.2 (bytM code[a]) []) [.int .u8 (tagM code[a]).1, .bool (tagM code[a]).2.1, .int .u32 (tagM code[a]).2.2, bv, nilS] := by
        intro bs bv hb hsi
        rw [hb, hk]
        exact elA_cells hsi se_nil
      have L1 : (tagM code[a]).1 = 0 → (tagM code[a]).2.2 = 1 → SI .u8 (bytM code[a]) (.lsl false 0 [.int .u8 255] 1 (some 1)) := fun h1 h2 => by
        unfold bytM; rw [if_pos ⟨h1, h2⟩]; exact ⟨false, [], some 1, rfl, capOk_some, by simp, by simp⟩
      have L2 : ¬ ((tagM code[a]).1 = 0 ∧ (tagM code[a]).2.2 = 1) → (tagM code[a]).1 = 0 → (tagM code[a]).2.2 = 2 → SI .u8 (bytM code[a]) (.lsl false 0 [.int .u8 (code[a] / 8)] 1 (some 1)) := fun h0 h1 h2 => by
        unfold bytM; rw [if_neg h0, if_pos ⟨h1, h2⟩]; exact ⟨false, [], some 1, rfl, capOk_some, by simp, by simp⟩
      have L3 : ¬ ((tagM code[a]).1 = 0 ∧ (tagM code[a]).2.2 = 1) → ¬ ((tagM code[a]).1 = 0 ∧ (tagM code[a]).2.2 = 2) → SI .u8 (bytM code[a]) (.lsl false 0 (madeRow [.int .u8 0] (Int.toNat (code[a] * (code[a] / 64)) * 1)) (Int.toNat (code[a] * (code[a] / 64))) (some (Int.toNat (code[a] * (code[a] / 64))))) := fun h0 h1 => by
        unfold bytM; rw [if_neg h0, if_neg h1, Nat.mul_one, madeRow_u8]
        exact ⟨false, [], some (Int.toNat (code[a] * (code[a] / 64))), by simp, by rw [List.length_replicate]; exact capOk_some, by rw [List.length_replicate]; omega, by simp⟩
      have hmr : tagLeL 0 (madeRow [.int .u8 0] (Int.toNat (code[a] * (code[a] / 64)) * 1)) = true := by rw [madeRow_u8]; exact tagLeL_map _
      refine br_i (fun h1 => br_i (fun h2 => ?_) (fun h2 => br_i (fun h3 => br_i (fun h4 => ?_) (fun h4 => ?_)) (fun h3 => ?_))) (fun h1 => br_i (fun h3 => br_i (fun h4 => ?_) (fun h4 => ?_)) (fun h3 => ?_)) <;>
        (try simp only [beq_iff_eq, beq_eq_false_iff_ne, ne_eq] at h1) <;> (try simp only [beq_iff_eq, beq_eq_false_iff_ne, ne_eq] at h2) <;> (try simp only [beq_iff_eq, beq_eq_false_iff_ne, ne_eq] at h3) <;> (try simp only [beq_iff_eq, beq_eq_false_iff_ne, ne_eq] at h4)
      · have hela := hstep _ _ rfl (L1 h1 h2)
        refine ⟨by omega, hAl, by omega, by omega, (Acc.snoc_g hA hAl hAt hela).1, (a + 1, acc ++ [_]), by simp only; omega, ⟨by simp only; omega, by simp only [List.length_append, List.length_singleton]; omega, by simp only; omega, ?_, ?_, _, _, (Acc.snoc_g hA hAl hAt hela).2, rfl, rfl⟩, fun _ _ _ h => h⟩
        · rw [← hs1, hbl]; simp
        · rw [← hs2, hbl]
      · have hela := hstep _ _ rfl (L2 (fun h => h2 h.2) h3 h4)
        refine ⟨by omega, hAl, by omega, by omega, (Acc.snoc_g hA hAl hAt hela).1, (a + 1, acc ++ [_]), by simp only; omega, ⟨by simp only; omega, by simp only [List.length_append, List.length_singleton]; omega, by simp only; omega, ?_, ?_, _, _, (Acc.snoc_g hA hAl hAt hela).2, rfl, rfl⟩, fun _ _ _ h => h⟩
        · rw [← hs1, hbl]; simp
        · rw [← hs2, hbl]
      · refine ⟨by omega, by omega, by omega, by omega, hmr, ?_⟩
        have hela := hstep _ _ rfl (L3 (fun h => h2 h.2) (fun h => h4 h.2))
        refine ⟨by omega, hAl, by omega, by omega, (Acc.snoc_g hA hAl hAt hela).1, (a + 1, acc ++ [_]), by simp only; omega, ⟨by simp only; omega, by simp only [List.length_append, List.length_singleton]; omega, by simp only; omega, ?_, ?_, _, _, (Acc.snoc_g hA hAl hAt hela).2, rfl, rfl⟩, fun _ _ _ h => h⟩
        · rw [← hs1, hbl]; simp
        · rw [← hs2, hbl]
      · exact absurd h1 h3
      · exact absurd h3 h1
      · exact absurd h3 h1
      · refine ⟨by omega, by omega, by omega, by omega, hmr, ?_⟩
        have hela := hstep _ _ rfl (L3 (fun h => h1 h.1) (fun h => h1 h.1))
        refine ⟨by omega, hAl, by omega, by omega, (Acc.snoc_g hA hAl hAt hela).1, (a + 1, acc ++ [_]), by simp only; omega, ⟨by simp only; omega, by simp only [List.length_append, List.length_singleton]; omega, by simp only; omega, ?_, ?_, _, _, (Acc.snoc_g hA hAl hAt hela).2, rfl, rfl⟩, fun _ _ _ h => h⟩
        · rw [← hs1, hbl]; simp
        · rw [← hs2, hbl]


theorem leOs_refl : ∀ l : List (Option AObj), leOs l l
  | [] => trivial
  | _ :: l => ⟨.inl rfl, leOs_refl l⟩

theorem sum53 {code : List Int} {nlb : Bool} {exb : List AV} {cpb : Option Nat} (hbyt : Byt code) (hlen : code.length < 2 ^ 48) (hn : nlb = true → code = []) :
    ∀ (k a : Nat), 41 - a ≤ k → a ≤ 40 → P53 code (.lsl nlb 0 (code.map (AV.int .u8) ++ exb) code.length cpb) a := by
  intro k
  induction k with
  | zero => intro a h1 h2; omega
  | succ k ih =>
    intro a hk ha lv h0 h5
    have hend : ∃ v, (∃ w, SE (bl code a lv).1 w ∧ v = .tup [w, .int .i64 (bl code a lv).2]) ∧ Sm 53 [.lsl nlb 0 (code.map (AV.int .u8) ++ exb) code.length cpb, .int .i64 a, .int .i64 lv] v := by
      refine sum_ex _ (vc53 ..) ?_
      obtain ⟨ae, kvs', σ', ⟨v, os, hacc, rfl, hq⟩, hcd⟩ := loop53 (exb := exb) (cpb := cpb) hbyt hlen hn h0 h5 (fun a' h1 h2 => ih a' (by omega) h2) (a, []) _ _ ⟨Nat.le_refl _, by simp, by simp only; omega, rfl, rfl, nilS, [], .inl ⟨rfl, rfl, rfl⟩, rfl, rfl⟩
      simp only at hacc hcd
      have hbd := (bld_le 41 code a lv).2
      have hll : (bl code a lv).1.length < 2 ^ 48 := by
        have h1 : (bl code a lv).1.length + a ≤ (bl code a lv).2 := hbd.1
        have h2 : (bl code a lv).2 ≤ max a 40 := hbd.2
        omega
      refine ⟨((bl code a lv).2 : Nat), ?_⟩
      rcases hq with ⟨rfl, rfl⟩ | ⟨rfl, rfl⟩
      · rcases hacc with ⟨hz, rfl, rfl⟩ | ⟨cs, rfl, rfl, hA, hAl, hAt⟩
        · exact .inl ⟨hcd, _, rfl, _, by rw [hz]; exact se_nil, rfl⟩
        · exact .inr (.inl ⟨_, _, hcd, hAt, _, rfl, _, ⟨false, cs, none, rfl, capOk_none, hll, by simp, hA⟩, rfl⟩)
      · rcases hacc with ⟨hz, rfl, rfl⟩ | ⟨cs, rfl, rfl, hA, hAl, hAt⟩
        · exact .inr (.inr (.inl ⟨hcd.weak (kvs2 := [(1, .any), (6, nilS), (7, .int .i64 ((bl code a lv).2 : Nat)), (8, .any)]) ⟨rfl, .inr rfl, rfl, .inl rfl, rfl, .inl rfl, rfl, .inr rfl, trivial⟩ (leOs_refl _), _, rfl, _, by rw [hz]; exact se_nil, rfl⟩))
        · exact .inr (.inr (.inr ⟨_, _, hcd.weak (kvs2 := [(1, .any), (6, .rsl 0 0 (bl code a lv).1.length none), (7, .int .i64 ((bl code a lv).2 : Nat)), (8, .any)]) ⟨rfl, .inr rfl, rfl, .inl rfl, rfl, .inl rfl, rfl, .inr rfl, trivial⟩ (leOs_refl _), hAt, _, rfl, _, ⟨false, cs, none, rfl, capOk_none, hll, by simp, hA⟩, rfl⟩))
    obtain ⟨_, ⟨w, h1, rfl⟩, h2⟩ := hend
    exact ⟨w, h1, h2⟩

/-- The element that codes describe: a SEQUENCE. -/
def codeEl (code : List Int) : El := .mk 0 true 16 [] (bl code 0 2).1

theorem sum34 {code : List Int} {b : AV} (hb : SI .u8 code b) (hbyt : Byt code) : ∃ v, SE (bl code 0 2).1 v ∧ Sm 34 [.agg [b]] (.agg [.int .u8 0, .bool true, .int .u32 16, nilS, v]) := by
  obtain ⟨nl, ex, cp, rfl, _, hl, hn⟩ := hb
  obtain ⟨v, hv, hs⟩ := sum53 (exb := ex) (cpb := cp) hbyt hl hn 41 0 (by omega) (by omega) 2 (by omega) (by omega)
  refine ⟨v, hv, ?_⟩
  obtain ⟨nl2, cs2, cap2, rfl, -⟩ := hv
  exact sum_vc (vc34 ..) ⟨_, _, _, _, _, hs, _, _, _, sum54 (by omega) (by omega), rfl⟩

end Go.Vid
