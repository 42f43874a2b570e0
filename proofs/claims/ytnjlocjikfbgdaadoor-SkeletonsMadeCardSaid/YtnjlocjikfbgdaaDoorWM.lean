/-
elements.Get: summaries.
-/
import Derived.Test.YtnjlocjikfbgdaaDoorWL
import Derived.Test.YtnjlocjikfbgdaaDoorKD
set_option linter.all false
namespace Go.Vid
open Go.Proofs
set_option maxRecDepth 100000
set_option linter.unusedVariables false
section
open AExit AOut AV IntKind
theorem vc84 (nls : Bool) (lens : Nat) (css : List AV) (cps : Option Nat) (K : AOut → Prop) : (dataT Tryd.prog env [(84, { ops := [(5, [(2, Kd.w)]), (6, [(6, Kd.b)])], loops := [(0, LoopS.unroll 5)] })] 84 [lsl nls 0 css lens cps] K) =
    (br ((1 : Int) == (↑lens : Int)) (K (AOut.ret (tup [int u32 0, int i64 0, int i64 7]))) (nls = false ∧ (0 : Int) ≤ (1 : Int) ∧ (1 : Int) < (↑lens : Int) ∧ ∃ z1 cs2, List.drop 1 css = int u8 z1 :: cs2 ∧ br (z1 == (128 : Int)) (K (AOut.ret (tup [int u32 0, int i64 0, int i64 9]))) (br (decide (z1 < (128 : Int))) (br (decide ((↑((0 ||| Int.toNat (↑((Int.toNat (z1 % (256 : Int)) &&& 127) % 256 % 4294967296 % 4294967296) : Int)) % 4294967296) : Int) < (31 : Int))) (K (AOut.ret (tup [int u32 0, int i64 0, int i64 9]))) (K (AOut.ret (tup [int u32 (↑((0 ||| Int.toNat (↑((Int.toNat (z1 % (256 : Int)) &&& 127) % 256 % 4294967296 % 4294967296) : Int)) % 4294967296) : Int), int i64 2, int i64 0])))) (br ((2 : Int) == (↑lens : Int)) (K (AOut.ret (tup [int u32 0, int i64 0, int i64 7]))) (nls = false ∧ (0 : Int) ≤ (2 : Int) ∧ (2 : Int) < (↑lens : Int) ∧ ∃ z3 cs4, List.drop 2 css = int u8 z3 :: cs4 ∧ br (decide (z3 < (128 : Int))) (br (decide ((↑((Int.toNat (↑((0 ||| Int.toNat (↑((Int.toNat (z1 % (256 : Int)) &&& 127) % 256 % 4294967296 % 4294967296) : Int)) % 4294967296 * 128 % 4294967296 % 4294967296) : Int) ||| Int.toNat (↑((Int.toNat (z3 % (256 : Int)) &&& 127) % 256 % 4294967296 % 4294967296) : Int)) % 4294967296) : Int) < (31 : Int))) (K (AOut.ret (tup [int u32 0, int i64 0, int i64 9]))) (K (AOut.ret (tup [int u32 (↑((Int.toNat (↑((0 ||| Int.toNat (↑((Int.toNat (z1 % (256 : Int)) &&& 127) % 256 % 4294967296 % 4294967296) : Int)) % 4294967296 * 128 % 4294967296 % 4294967296) : Int) ||| Int.toNat (↑((Int.toNat (z3 % (256 : Int)) &&& 127) % 256 % 4294967296 % 4294967296) : Int)) % 4294967296) : Int), int i64 3, int i64 0])))) (br ((3 : Int) == (↑lens : Int)) (K (AOut.ret (tup [int u32 0, int i64 0, int i64 7]))) (nls = false ∧ (0 : Int) ≤ (3 : Int) ∧ (3 : Int) < (↑lens : Int) ∧ ∃ z5 cs6, List.drop 3 css = int u8 z5 :: cs6 ∧ br (decide (z5 < (128 : Int))) (br (decide ((↑((Int.toNat (↑((Int.toNat (↑((0 ||| Int.toNat (↑((Int.toNat (z1 % (256 : Int)) &&& 127) % 256 % 4294967296 % 4294967296) : Int)) % 4294967296 * 128 % 4294967296 % 4294967296) : Int) ||| Int.toNat (↑((Int.toNat (z3 % (256 : Int)) &&& 127) % 256 % 4294967296 % 4294967296) : Int)) % 4294967296 * 128 % 4294967296 % 4294967296) : Int) ||| Int.toNat (↑((Int.toNat (z5 % (256 : Int)) &&& 127) % 256 % 4294967296 % 4294967296) : Int)) % 4294967296) : Int) < (31 : Int))) (K (AOut.ret (tup [int u32 0, int i64 0, int i64 9]))) (K (AOut.ret (tup [int u32 (↑((Int.toNat (↑((Int.toNat (↑((0 ||| Int.toNat (↑((Int.toNat (z1 % (256 : Int)) &&& 127) % 256 % 4294967296 % 4294967296) : Int)) % 4294967296 * 128 % 4294967296 % 4294967296) : Int) ||| Int.toNat (↑((Int.toNat (z3 % (256 : Int)) &&& 127) % 256 % 4294967296 % 4294967296) : Int)) % 4294967296 * 128 % 4294967296 % 4294967296) : Int) ||| Int.toNat (↑((Int.toNat (z5 % (256 : Int)) &&& 127) % 256 % 4294967296 % 4294967296) : Int)) % 4294967296) : Int), int i64 4, int i64 0])))) (br ((4 : Int) == (↑lens : Int)) (K (AOut.ret (tup [int u32 0, int i64 0, int i64 7]))) (nls = false ∧ (0 : Int) ≤ (4 : Int) ∧ (4 : Int) < (↑lens : Int) ∧ ∃ z7 cs8, List.drop 4 css = int u8 z7 :: cs8 ∧ br (decide (z7 ≥ (128 : Int))) (K (AOut.ret (tup [int u32 0, int i64 0, int i64 9]))) (br (decide (z7 < (128 : Int))) (br (decide ((↑((Int.toNat (↑((Int.toNat (↑((Int.toNat (↑((0 ||| Int.toNat (↑((Int.toNat (z1 % (256 : Int)) &&& 127) % 256 % 4294967296 % 4294967296) : Int)) % 4294967296 * 128 % 4294967296 % 4294967296) : Int) ||| Int.toNat (↑((Int.toNat (z3 % (256 : Int)) &&& 127) % 256 % 4294967296 % 4294967296) : Int)) % 4294967296 * 128 % 4294967296 % 4294967296) : Int) ||| Int.toNat (↑((Int.toNat (z5 % (256 : Int)) &&& 127) % 256 % 4294967296 % 4294967296) : Int)) % 4294967296 * 128 % 4294967296 % 4294967296) : Int) ||| Int.toNat (↑((Int.toNat (z7 % (256 : Int)) &&& 127) % 256 % 4294967296 % 4294967296) : Int)) % 4294967296) : Int) < (31 : Int))) (K (AOut.ret (tup [int u32 0, int i64 0, int i64 9]))) (K (AOut.ret (tup [int u32 (↑((Int.toNat (↑((Int.toNat (↑((Int.toNat (↑((0 ||| Int.toNat (↑((Int.toNat (z1 % (256 : Int)) &&& 127) % 256 % 4294967296 % 4294967296) : Int)) % 4294967296 * 128 % 4294967296 % 4294967296) : Int) ||| Int.toNat (↑((Int.toNat (z3 % (256 : Int)) &&& 127) % 256 % 4294967296 % 4294967296) : Int)) % 4294967296 * 128 % 4294967296 % 4294967296) : Int) ||| Int.toNat (↑((Int.toNat (z5 % (256 : Int)) &&& 127) % 256 % 4294967296 % 4294967296) : Int)) % 4294967296 * 128 % 4294967296 % 4294967296) : Int) ||| Int.toNat (↑((Int.toNat (z7 % (256 : Int)) &&& 127) % 256 % 4294967296 % 4294967296) : Int)) % 4294967296) : Int), int i64 5, int i64 0])))) (br ((5 : Int) == (↑lens : Int)) (K (AOut.ret (tup [int u32 0, int i64 0, int i64 7]))) (nls = false ∧ (0 : Int) ≤ (5 : Int) ∧ (5 : Int) < (↑lens : Int) ∧ ∃ z9 cs10, List.drop 5 css = int u8 z9 :: cs10 ∧ br (decide (z9 < (128 : Int))) (br (decide ((↑((Int.toNat (↑((Int.toNat (↑((Int.toNat (↑((Int.toNat (↑((0 ||| Int.toNat (↑((Int.toNat (z1 % (256 : Int)) &&& 127) % 256 % 4294967296 % 4294967296) : Int)) % 4294967296 * 128 % 4294967296 % 4294967296) : Int) ||| Int.toNat (↑((Int.toNat (z3 % (256 : Int)) &&& 127) % 256 % 4294967296 % 4294967296) : Int)) % 4294967296 * 128 % 4294967296 % 4294967296) : Int) ||| Int.toNat (↑((Int.toNat (z5 % (256 : Int)) &&& 127) % 256 % 4294967296 % 4294967296) : Int)) % 4294967296 * 128 % 4294967296 % 4294967296) : Int) ||| Int.toNat (↑((Int.toNat (z7 % (256 : Int)) &&& 127) % 256 % 4294967296 % 4294967296) : Int)) % 4294967296 * 128 % 4294967296 % 4294967296) : Int) ||| Int.toNat (↑((Int.toNat (z9 % (256 : Int)) &&& 127) % 256 % 4294967296 % 4294967296) : Int)) % 4294967296) : Int) < (31 : Int))) (K (AOut.ret (tup [int u32 0, int i64 0, int i64 9]))) (K (AOut.ret (tup [int u32 (↑((Int.toNat (↑((Int.toNat (↑((Int.toNat (↑((Int.toNat (↑((0 ||| Int.toNat (↑((Int.toNat (z1 % (256 : Int)) &&& 127) % 256 % 4294967296 % 4294967296) : Int)) % 4294967296 * 128 % 4294967296 % 4294967296) : Int) ||| Int.toNat (↑((Int.toNat (z3 % (256 : Int)) &&& 127) % 256 % 4294967296 % 4294967296) : Int)) % 4294967296 * 128 % 4294967296 % 4294967296) : Int) ||| Int.toNat (↑((Int.toNat (z5 % (256 : Int)) &&& 127) % 256 % 4294967296 % 4294967296) : Int)) % 4294967296 * 128 % 4294967296 % 4294967296) : Int) ||| Int.toNat (↑((Int.toNat (z7 % (256 : Int)) &&& 127) % 256 % 4294967296 % 4294967296) : Int)) % 4294967296 * 128 % 4294967296 % 4294967296) : Int) ||| Int.toNat (↑((Int.toNat (z9 % (256 : Int)) &&& 127) % 256 % 4294967296 % 4294967296) : Int)) % 4294967296) : Int), int i64 6, int i64 0])))) False)))))))))))) := by kernel_rfl
theorem vc71 (nls : Bool) (lens : Nat) (css : List AV) (cps : Option Nat) (K : AOut → Prop) : (dataT Tryd.prog env [(71, { ops := [(3, [(1, Kd.w), (5, Kd.w), (10, Kd.w)])] })] 71 [lsl nls 0 css lens cps] K) =
    (br ((↑lens : Int) == (0 : Int)) (K (AOut.ret (tup [agg [int u8 0, AV.bool false, int u32 0], int i64 0, int i64 7]))) (nls = false ∧ (0 : Int) ≤ (0 : Int) ∧ (0 : Int) < (↑lens : Int) ∧ ∃ z1 cs2, css = int u8 z1 :: cs2 ∧ nls = false ∧ (0 : Int) ≤ (0 : Int) ∧ (0 : Int) < (↑lens : Int) ∧ ∃ z3 cs4, css = int u8 z3 :: cs4 ∧ nls = false ∧ (0 : Int) ≤ (0 : Int) ∧ (0 : Int) < (↑lens : Int) ∧ ∃ z5 cs6, css = int u8 z5 :: cs6 ∧ br ((↑((Int.toNat (z5 % (256 : Int)) &&& 31) % 256 % 4294967296) : Int) == (31 : Int)) (∃ z7 z8 z9, Sm 84 [lsl nls 0 css lens cps] ((tup [int u32 z7, int i64 z8, int i64 z9])) ∧ br (z9 == (0 : Int)) (∃ z10, Sm 77 [agg [int u8 (Int.fdiv z1 (64 : Int)), AV.bool ((↑((Int.toNat (z3 % (256 : Int)) &&& 32) % 256) : Int) != (0 : Int)), int u32 z7]] ((int i64 z10)) ∧ br (z10 != (0 : Int)) (K (AOut.ret (tup [agg [int u8 0, AV.bool false, int u32 0], int i64 0, int i64 z10]))) (K (AOut.ret (tup [agg [int u8 (Int.fdiv z1 (64 : Int)), AV.bool ((↑((Int.toNat (z3 % (256 : Int)) &&& 32) % 256) : Int) != (0 : Int)), int u32 z7], int i64 z8, int i64 0])))) (br (z9 != (0 : Int)) (K (AOut.ret (tup [agg [int u8 0, AV.bool false, int u32 0], int i64 0, int i64 z9]))) (K (AOut.ret (tup [agg [int u8 (Int.fdiv z1 (64 : Int)), AV.bool ((↑((Int.toNat (z3 % (256 : Int)) &&& 32) % 256) : Int) != (0 : Int)), int u32 z7], int i64 z8, int i64 0]))))) (∃ z11, Sm 77 [agg [int u8 (Int.fdiv z1 (64 : Int)), AV.bool ((↑((Int.toNat (z3 % (256 : Int)) &&& 32) % 256) : Int) != (0 : Int)), int u32 (↑((Int.toNat (z5 % (256 : Int)) &&& 31) % 256 % 4294967296) : Int)]] ((int i64 z11)) ∧ br (z11 != (0 : Int)) (K (AOut.ret (tup [agg [int u8 0, AV.bool false, int u32 0], int i64 0, int i64 z11]))) (K (AOut.ret (tup [agg [int u8 (Int.fdiv z1 (64 : Int)), AV.bool ((↑((Int.toNat (z3 % (256 : Int)) &&& 32) % 256) : Int) != (0 : Int)), int u32 (↑((Int.toNat (z5 % (256 : Int)) &&& 31) % 256 % 4294967296) : Int)], int i64 1, int i64 0])))))) := by kernel_rfl
theorem vc72 (nls : Bool) (lens : Nat) (css : List AV) (cps : Option Nat) (K : AOut → Prop) : (dataT Tryd.prog env [(72, { ops := [(3, [(1, Kd.w)]), (4, [(1, Kd.w)]), (6, [(1, Kd.w)]), (7, [(2, Kd.b)]), (11, [(2, Kd.w), (4, Kd.w), (5, Kd.w)]), (12, [(1, Kd.w), (5, Kd.w), (10, Kd.w)]), (13, [(1, Kd.w), (4, Kd.b)])] })] 72 [lsl nls 0 css lens cps] K) =
    (br ((↑lens : Int) == (0 : Int)) (K (AOut.ret (tup [int i64 0, int i64 0, int i64 7]))) (nls = false ∧ (0 : Int) ≤ (0 : Int) ∧ (0 : Int) < (↑lens : Int) ∧ ∃ z1 cs2, css = int u8 z1 :: cs2 ∧ br (decide (z1 ≤ (127 : Int))) (nls = false ∧ (0 : Int) ≤ (0 : Int) ∧ (0 : Int) < (↑lens : Int) ∧ ∃ z3 cs4, css = int u8 z3 :: cs4 ∧ K (AOut.ret (tup [int i64 (wrap i64 z3), int i64 1, int i64 0]))) (nls = false ∧ (0 : Int) ≤ (0 : Int) ∧ (0 : Int) < (↑lens : Int) ∧ ∃ z5 cs6, css = int u8 z5 :: cs6 ∧ br (wrap i64 (wrap i64 z5 - (128 : Int)) == (0 : Int)) (K (AOut.ret (tup [int i64 0, int i64 0, int i64 10]))) (br (decide (wrap i64 (wrap i64 z5 - (128 : Int)) > (3 : Int))) (K (AOut.ret (tup [int i64 0, int i64 0, int i64 10]))) (br (decide ((↑lens : Int) ≤ wrap i64 (wrap i64 z5 - (128 : Int)))) (K (AOut.ret (tup [int i64 0, int i64 0, int i64 7]))) ((0 : Int) ≤ wrap i64 ((3 : Int) - wrap i64 (wrap i64 z5 - (128 : Int))) ∧ wrap i64 ((3 : Int) - wrap i64 (wrap i64 z5 - (128 : Int))) ≤ (3 : Int) ∧ (0 : Int) ≤ (1 : Int) ∧ (1 : Int) ≤ (↑lens : Int) ∧ (lens - 1) * 1 ≤ List.length (if lens = 1 then [] else List.drop 1 css) ∧ (if 3 = Int.toNat (wrap i64 ((3 : Int) - wrap i64 (wrap i64 z5 - (128 : Int)))) then 0 else 0 + Int.toNat (wrap i64 ((3 : Int) - wrap i64 (wrap i64 z5 - (128 : Int)))) * 1) + Min.min (lens - 1) (3 - Int.toNat (wrap i64 ((3 : Int) - wrap i64 (wrap i64 z5 - (128 : Int))))) * 1 ≤ 3 ∧ ∃ z7 cs8, List.drop 0 (putL [int u8 0, int u8 0, int u8 0] (if 3 = Int.toNat (wrap i64 ((3 : Int) - wrap i64 (wrap i64 z5 - (128 : Int)))) then 0 else 0 + Int.toNat (wrap i64 ((3 : Int) - wrap i64 (wrap i64 z5 - (128 : Int)))) * 1) (List.take (Min.min (lens - 1) (3 - Int.toNat (wrap i64 ((3 : Int) - wrap i64 (wrap i64 z5 - (128 : Int))))) * 1) (if lens = 1 then [] else List.drop 1 css))) = int u8 z7 :: cs8 ∧ ∃ z9 cs10, List.drop 1 (putL [int u8 0, int u8 0, int u8 0] (if 3 = Int.toNat (wrap i64 ((3 : Int) - wrap i64 (wrap i64 z5 - (128 : Int)))) then 0 else 0 + Int.toNat (wrap i64 ((3 : Int) - wrap i64 (wrap i64 z5 - (128 : Int)))) * 1) (List.take (Min.min (lens - 1) (3 - Int.toNat (wrap i64 ((3 : Int) - wrap i64 (wrap i64 z5 - (128 : Int))))) * 1) (if lens = 1 then [] else List.drop 1 css))) = int u8 z9 :: cs10 ∧ ∃ z11 cs12, List.drop 2 (putL [int u8 0, int u8 0, int u8 0] (if 3 = Int.toNat (wrap i64 ((3 : Int) - wrap i64 (wrap i64 z5 - (128 : Int)))) then 0 else 0 + Int.toNat (wrap i64 ((3 : Int) - wrap i64 (wrap i64 z5 - (128 : Int)))) * 1) (List.take (Min.min (lens - 1) (3 - Int.toNat (wrap i64 ((3 : Int) - wrap i64 (wrap i64 z5 - (128 : Int))))) * 1) (if lens = 1 then [] else List.drop 1 css))) = int u8 z11 :: cs12 ∧ nls = false ∧ (0 : Int) ≤ (1 : Int) ∧ (1 : Int) < (↑lens : Int) ∧ ∃ z13 cs14, List.drop 1 css = int u8 z13 :: cs14 ∧ br (z13 == (0 : Int)) (K (AOut.ret (tup [int i64 0, int i64 0, int i64 10]))) (br (decide (wrap i64 (↑(Int.toNat (wrap i64 (↑(Int.toNat (wrap i64 (wrap i64 z7 * (65536 : Int)) % (18446744073709551616 : Int)) ||| Int.toNat (wrap i64 (wrap i64 z9 * (256 : Int)) % (18446744073709551616 : Int))) : Int) % (18446744073709551616 : Int)) ||| Int.toNat (wrap i64 z11 % (18446744073709551616 : Int))) : Int) ≤ (127 : Int))) (K (AOut.ret (tup [int i64 0, int i64 0, int i64 10]))) (K (AOut.ret (tup [int i64 (wrap i64 (↑(Int.toNat (wrap i64 (↑(Int.toNat (wrap i64 (wrap i64 z7 * (65536 : Int)) % (18446744073709551616 : Int)) ||| Int.toNat (wrap i64 (wrap i64 z9 * (256 : Int)) % (18446744073709551616 : Int))) : Int) % (18446744073709551616 : Int)) ||| Int.toNat (wrap i64 z11 % (18446744073709551616 : Int))) : Int)), int i64 (wrap i64 (wrap i64 (wrap i64 z5 - (128 : Int)) + (1 : Int))), int i64 0])))))))))) := by kernel_rfl
theorem vc73 (nls : Bool) (lens : Nat) (css : List AV) (cps : Option Nat) (K : AOut → Prop) : (dataT Tryd.prog env [(73, { ops := [(1, [(1, Kd.w)]), (3, [(2, Kd.w)])], lax := [5] })] 73 [lsl nls 0 css lens cps] K) =
    (br nls (K (AOut.ret (nilS))) (lens * 1 ≤ List.length css ∧ br (Nat.beq lens 0) (true = true ∧ K (AOut.ret (lsl false 0 [] 0 (some 0)))) (br (Nat.ble (0 + lens) 0) (0 + (0 + lens) * 1 ≤ 0 ∧ tagLeL 0 (putL [] 0 (List.take (lens * 1) css)) = true ∧ K (AOut.ret (lsl false 0 (List.drop 0 (putL [] 0 (List.take (lens * 1) css))) (0 + lens) (some 0)))) (0 ≤ 0 ∧ (0 + lens) * 1 ≤ 70368744177664 ∧ 0 + lens ≤ 70368744177664 ∧ tagLeL 0 ([] ++ List.take (lens * 1) css) = true ∧ K (AOut.ret (lsl false 0 (List.drop 0 ([] ++ List.take (lens * 1) css)) (0 + lens) none)))))) := by kernel_rfl
theorem vc74 (nls : Bool) (lens : Nat) (css : List AV) (cps : Option Nat) (K : AOut → Prop) : (dataT Tryd.prog env [(74, { ops := [(1, [(5, Kd.w)])] })] 74 [lsl nls 0 css lens cps] K) =
    ((0 : Int) ≤ (↑lens : Int) ∧ (↑lens : Int) ≤ (↑(Option.getD cps lens) : Int) ∧ (0 : Int) ≤ (↑lens : Int) ∧ (↑lens : Int) ≤ (↑lens : Int) ∧ K (AOut.ret (lsl nls 0 (if lens = 0 then [] else css) lens (some lens)))) := by kernel_rfl
theorem vc15 (nls : Bool) (lens : Nat) (css : List AV) (cps : Option Nat) (K : AOut → Prop) : (dataT Tryd.prog env [] 15 [lsl nls 0 css lens cps] K) =
    (∃ z1 b2 z3 b4 cs5 n6 cp7 b8 cs9 n10 cp11 z12 z13 z14, Sm 36 [lsl nls 0 css lens cps] ((tup [agg [int u8 z1, AV.bool b2, int u32 z3, lsl b4 0 cs5 n6 cp7, lsl b8 0 cs9 n10 cp11], int i64 z12, int i64 z13, int i64 z14])) ∧ br (z14 != (0 : Int)) (K (AOut.ret (tup [agg [int u8 0, AV.bool false, int u32 0, nilS, nilS], int i64 z13, int i64 z14]))) (br (decide (z12 < (↑lens : Int))) (K (AOut.ret (tup [agg [int u8 0, AV.bool false, int u32 0, nilS, nilS], int i64 z12, int i64 8]))) (K (AOut.ret (tup [agg [int u8 z1, AV.bool b2, int u32 z3, lsl b4 0 cs5 n6 cp7, lsl b8 0 cs9 n10 cp11], int i64 0, int i64 0]))))) := by kernel_rfl
abbrev tb_r57n : List (FuncId × Sc) := [(57, { ops := [(28, [(4, Kd.wi)])], calls := [(27, [(5, Sh.bool fun b => Sh.cells fun cs => Sh.nat fun n => Sh.cap fun cp => Sh.int fun cnt => Sh.or (Sh.int fun c => Sh.bool fun k => Sh.int fun t => Sh.bool fun nl1 => Sh.cells fun cs1 => Sh.nat fun l1 => Sh.cap fun cp1 => Sh.bool fun nl2 => Sh.cells fun cs2 => Sh.nat fun l2 => Sh.cap fun cp2 => Sh.int fun nx => Sh.one (AOut.ret (tup [agg [int u8 c, AV.bool k, int u32 t, lsl nl1 0 cs1 l1 cp1, lsl nl2 0 cs2 l2 cp2], int i64 nx]), ⟨[some (AObj.cells [lsl b 0 cs n cp, int i64 cnt] 119 false)], 0⟩)) (Sh.int fun a => Sh.int fun err => Sh.one (AOut.panic (iface 116 (agg [int i64 a, int i64 err])), ⟨[some (AObj.cells [lsl b 0 cs n cp, int i64 cnt] 119 false)], 0⟩)))])], lax := [1032] })]
theorem r57n (ps to depth cnt ec en : Int) (nlb ek nleb : Bool) (lenb leneb : Nat) (csb cseb : List AV) (cpb cpeb : Option Nat) (K : AExit → List (Nat × AV) → St → Prop) : (roundT Tryd.prog env tb_r57n 57 (bodyL Tryd.f57 2) 1 151 [0, 1, 2, 3, 8, 14] [2, 8, 14] [(0, ref 0 0), (1, int i64 ps), (2, int i64 to), (3, int i64 depth), (8, ref 1 0), (14, ref 2 0)] ⟨[some (AObj.cells [lsl nlb 0 csb lenb cpb, int i64 cnt] 119 false), some (AObj.cells [int u8 0, AV.bool false, int u32 0, nilS, nilS] 32 false), some (AObj.cells [int u8 ec, AV.bool ek, int u32 en, lsl nleb 0 cseb leneb cpeb, nilS] 32 false)], 0⟩ K) =
    (br (decide (ps < to)) (∃ b1 cs2 n3 cp4 z5, (∃ z6 b7 z8 b9 cs10 n11 cp12 b13 cs14 n15 cp16 z17, Cl 57 [ref 0 0, int i64 ps, int i64 to, int i64 (wrap i64 (depth + (1 : Int)))] ⟨[some (AObj.cells [lsl nlb 0 csb lenb cpb, int i64 cnt] 119 false)], 0⟩ (AOut.ret (tup [agg [int u8 z6, AV.bool b7, int u32 z8, lsl b9 0 cs10 n11 cp12, lsl b13 0 cs14 n15 cp16], int i64 z17])) ⟨[some (AObj.cells [lsl b1 0 cs2 n3 cp4, int i64 z5] 119 false)], 0⟩ ∧ 5 ≤ 5 ∧ 1 ≠ 0 ∧ (true = true ∨ some 0 = some 0) ∧ 0 ≤ 0 ∧ 56 ≤ 70368744177664 ∧ 1 ≤ 70368744177664 ∧ true = true ∧ K normal [(0, ref 0 0), (1, int i64 z17), (2, int i64 to), (3, int i64 depth), (8, ref 1 0), (14, ref 2 0)] ⟨[some (AObj.cells [lsl b1 0 cs2 n3 cp4, int i64 z5] 119 false), some (AObj.cells [int u8 0, AV.bool false, int u32 0, nilS, nilS] 32 false), some (AObj.cells [int u8 ec, AV.bool ek, int u32 en, lsl nleb 0 cseb leneb cpeb, rsl 3 0 1 none] 32 false), some (AObj.cells [int u8 z6, AV.bool b7, int u32 z8, lsl b9 0 cs10 n11 cp12, lsl b13 0 cs14 n15 cp16] 32 true)], 0⟩) ∨ ∃ z18 z19, Cl 57 [ref 0 0, int i64 ps, int i64 to, int i64 (wrap i64 (depth + (1 : Int)))] ⟨[some (AObj.cells [lsl nlb 0 csb lenb cpb, int i64 cnt] 119 false)], 0⟩ (AOut.panic (iface 116 (agg [int i64 z18, int i64 z19]))) ⟨[some (AObj.cells [lsl b1 0 cs2 n3 cp4, int i64 z5] 119 false)], 0⟩ ∧ K (AExit.panic (iface 116 (agg [int i64 z18, int i64 z19]))) [(2, int i64 to), (8, ref 1 0), (14, ref 2 0)] ⟨[some (AObj.cells [lsl b1 0 cs2 n3 cp4, int i64 z5] 119 false), some (AObj.cells [int u8 0, AV.bool false, int u32 0, nilS, nilS] 32 false), some (AObj.cells [int u8 ec, AV.bool ek, int u32 en, lsl nleb 0 cseb leneb cpeb, nilS] 32 false)], 0⟩) (K (exit 2) [(2, int i64 to), (8, ref 1 0), (14, ref 2 0)] ⟨[some (AObj.cells [lsl nlb 0 csb lenb cpb, int i64 cnt] 119 false), some (AObj.cells [int u8 0, AV.bool false, int u32 0, nilS, nilS] 32 false), some (AObj.cells [int u8 ec, AV.bool ek, int u32 en, lsl nleb 0 cseb leneb cpeb, nilS] 32 false)], 0⟩)) := by kernel_rfl
abbrev tb_r57 : List (FuncId × Sc) := [(57, { ops := [(28, [(4, Kd.wi)])], calls := [(27, [(5, Sh.bool fun b => Sh.cells fun cs => Sh.nat fun n => Sh.cap fun cp => Sh.int fun cnt => Sh.or (Sh.int fun c => Sh.bool fun k => Sh.int fun t => Sh.bool fun nl1 => Sh.cells fun cs1 => Sh.nat fun l1 => Sh.cap fun cp1 => Sh.bool fun nl2 => Sh.cells fun cs2 => Sh.nat fun l2 => Sh.cap fun cp2 => Sh.int fun nx => Sh.one (AOut.ret (tup [agg [int u8 c, AV.bool k, int u32 t, lsl nl1 0 cs1 l1 cp1, lsl nl2 0 cs2 l2 cp2], int i64 nx]), ⟨[some (AObj.cells [lsl b 0 cs n cp, int i64 cnt] 119 false)], 0⟩)) (Sh.int fun a => Sh.int fun err => Sh.one (AOut.panic (iface 116 (agg [int i64 a, int i64 err])), ⟨[some (AObj.cells [lsl b 0 cs n cp, int i64 cnt] 119 false)], 0⟩)))])], lax := [1032] })]
theorem r57 (ps to depth cnt ec en : Int) (nlb ek nleb : Bool) (lenb leneb m : Nat) (csb cseb cso : List AV) (cpb cpeb : Option Nat) (K : AExit → List (Nat × AV) → St → Prop) : (roundT Tryd.prog env tb_r57 57 (bodyL Tryd.f57 2) 1 151 [0, 1, 2, 3, 8, 14] [2, 8, 14] [(0, ref 0 0), (1, int i64 ps), (2, int i64 to), (3, int i64 depth), (8, ref 1 0), (14, ref 2 0)] ⟨[some (AObj.cells [lsl nlb 0 csb lenb cpb, int i64 cnt] 119 false), some (AObj.cells [int u8 0, AV.bool false, int u32 0, nilS, nilS] 32 false), some (AObj.cells [int u8 ec, AV.bool ek, int u32 en, lsl nleb 0 cseb leneb cpeb, rsl 3 0 m none] 32 false), some (AObj.cells cso 32 true)], 0⟩ K) =
    (br (decide (ps < to)) (∃ b1 cs2 n3 cp4 z5, (∃ z6 b7 z8 b9 cs10 n11 cp12 b13 cs14 n15 cp16 z17, Cl 57 [ref 0 0, int i64 ps, int i64 to, int i64 (wrap i64 (depth + (1 : Int)))] ⟨[some (AObj.cells [lsl nlb 0 csb lenb cpb, int i64 cnt] 119 false)], 0⟩ (AOut.ret (tup [agg [int u8 z6, AV.bool b7, int u32 z8, lsl b9 0 cs10 n11 cp12, lsl b13 0 cs14 n15 cp16], int i64 z17])) ⟨[some (AObj.cells [lsl b1 0 cs2 n3 cp4, int i64 z5] 119 false)], 0⟩ ∧ 5 ≤ 5 ∧ 1 ≠ 0 ∧ List.length cso = m * 5 ∧ (m + 1) * 56 ≤ 70368744177664 ∧ m + 1 ≤ 70368744177664 ∧ tagLeL 0 (cso ++ [int u8 z6, AV.bool b7, int u32 z8, lsl b9 0 cs10 n11 cp12, lsl b13 0 cs14 n15 cp16]) = true ∧ K normal [(0, ref 0 0), (1, int i64 z17), (2, int i64 to), (3, int i64 depth), (8, ref 1 0), (14, ref 2 0)] ⟨[some (AObj.cells [lsl b1 0 cs2 n3 cp4, int i64 z5] 119 false), some (AObj.cells [int u8 0, AV.bool false, int u32 0, nilS, nilS] 32 false), some (AObj.cells [int u8 ec, AV.bool ek, int u32 en, lsl nleb 0 cseb leneb cpeb, rsl 3 0 (m + 1) none] 32 false), some (AObj.cells (cso ++ [int u8 z6, AV.bool b7, int u32 z8, lsl b9 0 cs10 n11 cp12, lsl b13 0 cs14 n15 cp16]) 32 true)], 0⟩) ∨ ∃ z18 z19, Cl 57 [ref 0 0, int i64 ps, int i64 to, int i64 (wrap i64 (depth + (1 : Int)))] ⟨[some (AObj.cells [lsl nlb 0 csb lenb cpb, int i64 cnt] 119 false)], 0⟩ (AOut.panic (iface 116 (agg [int i64 z18, int i64 z19]))) ⟨[some (AObj.cells [lsl b1 0 cs2 n3 cp4, int i64 z5] 119 false)], 0⟩ ∧ tagLeL 0 cso = true ∧ K (AExit.panic (iface 116 (agg [int i64 z18, int i64 z19]))) [(2, int i64 to), (8, ref 1 0), (14, ref 2 0)] ⟨[some (AObj.cells [lsl b1 0 cs2 n3 cp4, int i64 z5] 119 false), some (AObj.cells [int u8 0, AV.bool false, int u32 0, nilS, nilS] 32 false), some (AObj.cells [int u8 ec, AV.bool ek, int u32 en, lsl nleb 0 cseb leneb cpeb, rsl 3 0 m none] 32 false), some (AObj.cells cso 32 true)], 0⟩) (tagLeL 0 cso = true ∧ K (exit 2) [(2, int i64 to), (8, ref 1 0), (14, ref 2 0)] ⟨[some (AObj.cells [lsl nlb 0 csb lenb cpb, int i64 cnt] 119 false), some (AObj.cells [int u8 0, AV.bool false, int u32 0, nilS, nilS] 32 false), some (AObj.cells [int u8 ec, AV.bool ek, int u32 en, lsl nleb 0 cseb leneb cpeb, rsl 3 0 m none] 32 false), some (AObj.cells cso 32 true)], 0⟩)) := by kernel_rfl
theorem vc57 (ps to depth cnt : Int) (nlb : Bool) (lenb : Nat) (csb : List AV) (cpb : Option Nat) (K : AOut → St → Prop) : (fnT Tryd.prog env [(57, { ops := [(1, [(6, Kd.w)]), (12, [(6, Kd.w)]), (23, [(6, Kd.w)])], loops := [(2, LoopS.inv [0, 1, 2, 3, 8, 14] fun vs σ => Sh.int fun cnt => Sh.or (Sh.one (exit 2, [(2, List.getD vs 2 any), (8, ref 1 0), (14, ref 2 0)], ⟨[rdr (List.getD (St.objs σ) 0 none) cnt, List.getD (St.objs σ) 1 none, List.getD (St.objs σ) 2 none], 0⟩)) (Sh.or (Sh.nat fun m => Sh.cells fun cs => Sh.one (exit 2, [(2, List.getD vs 2 any), (8, ref 1 0), (14, ref 2 0)], ⟨[rdr (List.getD (St.objs σ) 0 none) cnt, List.getD (St.objs σ) 1 none, esub (List.getD (St.objs σ) 2 none) (rsl 3 0 m none), some (AObj.cells cs 32 true)], 0⟩)) (Sh.int fun a => Sh.int fun err => Sh.one (AExit.panic (iface 116 (agg [int i64 a, int i64 err])), [(2, any), (8, any), (14, any)], ⟨[rdr (List.getD (St.objs σ) 0 none) cnt, none, none, none], 0⟩))))], lax := [1032] })] 9 57 [ref 0 0, int i64 ps, int i64 to, int i64 depth] ⟨[some (AObj.cells [lsl nlb 0 csb lenb cpb, int i64 cnt] 119 false)], 0⟩ K) =
    ((0 : Int) ≤ to ∧ to ≤ (↑(Option.getD cpb lenb) : Int) ∧ (0 : Int) ≤ ps ∧ ps ≤ (↑(Int.toNat to) : Int) ∧ ∃ z1 b2 z3 z4 z5, Sm 71 [lsl nlb 0 (if Int.toNat to = Int.toNat ps then [] else List.drop (Int.toNat ps * 1) csb) (Int.toNat to - Int.toNat ps) (Option.map (fun x => x - Int.toNat ps) cpb)] ((tup [agg [int u8 z1, AV.bool b2, int u32 z3], int i64 z4, int i64 z5])) ∧ br (z5 == (7 : Int)) (K (AOut.panic (iface 116 (agg [int i64 to, int i64 z5]))) ⟨[some (AObj.cells [lsl nlb 0 csb lenb cpb, int i64 cnt] 119 false), some (AObj.cells [int u8 0, AV.bool false, int u32 0, nilS, nilS] 32 false), some (AObj.cells [int u8 z1, AV.bool b2, int u32 z3] 29 false)], 0⟩) (br (z5 != (0 : Int)) (K (AOut.panic (iface 116 (agg [int i64 ps, int i64 z5]))) ⟨[some (AObj.cells [lsl nlb 0 csb lenb cpb, int i64 cnt] 119 false), some (AObj.cells [int u8 0, AV.bool false, int u32 0, nilS, nilS] 32 false), some (AObj.cells [int u8 z1, AV.bool b2, int u32 z3] 29 false)], 0⟩) (br (decide (depth > (16 : Int))) (K (AOut.panic (iface 116 (agg [int i64 ps, int i64 12]))) ⟨[some (AObj.cells [lsl nlb 0 csb lenb cpb, int i64 cnt] 119 false), some (AObj.cells [int u8 0, AV.bool false, int u32 0, nilS, nilS] 32 false), some (AObj.cells [int u8 z1, AV.bool b2, int u32 z3] 29 false)], 0⟩) (br (cnt == (8192 : Int)) (K (AOut.panic (iface 116 (agg [int i64 ps, int i64 3]))) ⟨[some (AObj.cells [lsl nlb 0 csb lenb cpb, int i64 cnt] 119 false), some (AObj.cells [int u8 0, AV.bool false, int u32 0, nilS, nilS] 32 false), some (AObj.cells [int u8 z1, AV.bool b2, int u32 z3] 29 false)], 0⟩) ((0 : Int) ≤ to ∧ to ≤ (↑(Option.getD cpb lenb) : Int) ∧ (0 : Int) ≤ wrap i64 (ps + z4) ∧ wrap i64 (ps + z4) ≤ (↑(Int.toNat to) : Int) ∧ ∃ z6 z7 z8, Sm 72 [lsl nlb 0 (if Int.toNat to = Int.toNat (wrap i64 (ps + z4)) then [] else List.drop (Int.toNat (wrap i64 (ps + z4)) * 1) csb) (Int.toNat to - Int.toNat (wrap i64 (ps + z4))) (Option.map (fun x => x - Int.toNat (wrap i64 (ps + z4))) cpb)] ((tup [int i64 z6, int i64 z7, int i64 z8])) ∧ br (z8 == (7 : Int)) (K (AOut.panic (iface 116 (agg [int i64 to, int i64 z8]))) ⟨[some (AObj.cells [lsl nlb 0 csb lenb cpb, int i64 (wrap i64 (cnt + (1 : Int)))] 119 false), some (AObj.cells [int u8 0, AV.bool false, int u32 0, nilS, nilS] 32 false), some (AObj.cells [int u8 z1, AV.bool b2, int u32 z3] 29 false)], 0⟩) (br (z8 != (0 : Int)) (K (AOut.panic (iface 116 (agg [int i64 (wrap i64 (ps + z4)), int i64 z8]))) ⟨[some (AObj.cells [lsl nlb 0 csb lenb cpb, int i64 (wrap i64 (cnt + (1 : Int)))] 119 false), some (AObj.cells [int u8 0, AV.bool false, int u32 0, nilS, nilS] 32 false), some (AObj.cells [int u8 z1, AV.bool b2, int u32 z3] 29 false)], 0⟩) (br (decide (z6 > wrap i64 (wrap i64 (to - wrap i64 (ps + z4)) - z7))) (K (AOut.panic (iface 116 (agg [int i64 to, int i64 7]))) ⟨[some (AObj.cells [lsl nlb 0 csb lenb cpb, int i64 (wrap i64 (cnt + (1 : Int)))] 119 false), some (AObj.cells [int u8 0, AV.bool false, int u32 0, nilS, nilS] 32 false), some (AObj.cells [int u8 z1, AV.bool b2, int u32 z3] 29 false)], 0⟩) (br (!b2) ((0 : Int) ≤ wrap i64 (wrap i64 (wrap i64 (ps + z4) + z7) + z6) ∧ wrap i64 (wrap i64 (wrap i64 (ps + z4) + z7) + z6) ≤ (↑(Option.getD cpb lenb) : Int) ∧ (0 : Int) ≤ wrap i64 (wrap i64 (ps + z4) + z7) ∧ wrap i64 (wrap i64 (ps + z4) + z7) ≤ (↑(Int.toNat (wrap i64 (wrap i64 (wrap i64 (ps + z4) + z7) + z6))) : Int) ∧ ∃ b9 cs10 n11 cp12, Sm 73 [lsl nlb 0 (if Int.toNat (wrap i64 (wrap i64 (wrap i64 (ps + z4) + z7) + z6)) = Int.toNat (wrap i64 (wrap i64 (ps + z4) + z7)) then [] else List.drop (Int.toNat (wrap i64 (wrap i64 (ps + z4) + z7)) * 1) csb) (Int.toNat (wrap i64 (wrap i64 (wrap i64 (ps + z4) + z7) + z6)) - Int.toNat (wrap i64 (wrap i64 (ps + z4) + z7))) (Option.map (fun x => x - Int.toNat (wrap i64 (wrap i64 (ps + z4) + z7))) cpb)] ((lsl b9 0 cs10 n11 cp12)) ∧ ∃ b13 cs14 n15 cp16, Sm 63 [lsl b9 0 cs10 n11 cp12] ((lsl b13 0 cs14 n15 cp16)) ∧ K (AOut.ret (tup [agg [int u8 z1, AV.bool b2, int u32 z3, lsl b13 0 cs14 n15 cp16, nilS], int i64 (wrap i64 (wrap i64 (wrap i64 (ps + z4) + z7) + z6))])) ⟨[some (AObj.cells [lsl nlb 0 csb lenb cpb, int i64 (wrap i64 (cnt + (1 : Int)))] 119 false), some (AObj.cells [int u8 z1, AV.bool b2, int u32 z3, lsl b13 0 cs14 n15 cp16, nilS] 32 false), some (AObj.cells [int u8 z1, AV.bool b2, int u32 z3] 29 false), some (AObj.cells [int u8 z1, AV.bool b2, int u32 z3, lsl b13 0 cs14 n15 cp16, nilS] 32 false)], 0⟩) (∃ z17, (Cd 1 (Code.loop (bodyL Tryd.f57 2)) (frOf 151 [(0, ref 0 0), (1, int i64 (wrap i64 (wrap i64 (ps + z4) + z7))), (2, int i64 (wrap i64 (wrap i64 (wrap i64 (ps + z4) + z7) + z6))), (3, int i64 depth), (8, ref 1 0), (14, ref 2 0)]) ⟨[some (AObj.cells [lsl nlb 0 csb lenb cpb, int i64 (wrap i64 (cnt + (1 : Int)))] 119 false), some (AObj.cells [int u8 0, AV.bool false, int u32 0, nilS, nilS] 32 false), some (AObj.cells [int u8 z1, AV.bool b2, int u32 z3, nilS, nilS] 32 false)], 0⟩ (exit 2) (frOf 151 [(2, int i64 (wrap i64 (wrap i64 (wrap i64 (ps + z4) + z7) + z6))), (8, ref 1 0), (14, ref 2 0)]) ⟨[some (AObj.cells [lsl nlb 0 csb lenb cpb, int i64 z17] 119 false), some (AObj.cells [int u8 0, AV.bool false, int u32 0, nilS, nilS] 32 false), some (AObj.cells [int u8 z1, AV.bool b2, int u32 z3, nilS, nilS] 32 false)], 0⟩ ∧ ∃ b18 cs19 n20 cp21, Sm 74 [nilS] ((lsl b18 0 cs19 n20 cp21)) ∧ K (AOut.ret (tup [agg [int u8 z1, AV.bool b2, int u32 z3, nilS, lsl b18 0 cs19 n20 cp21], int i64 (wrap i64 (wrap i64 (wrap i64 (ps + z4) + z7) + z6))])) ⟨[some (AObj.cells [lsl nlb 0 csb lenb cpb, int i64 z17] 119 false), some (AObj.cells [int u8 z1, AV.bool b2, int u32 z3, nilS, lsl b18 0 cs19 n20 cp21] 32 false), some (AObj.cells [int u8 z1, AV.bool b2, int u32 z3, nilS, lsl b18 0 cs19 n20 cp21] 32 false)], 0⟩) ∨ (∃ n22 cs23, Cd 1 (Code.loop (bodyL Tryd.f57 2)) (frOf 151 [(0, ref 0 0), (1, int i64 (wrap i64 (wrap i64 (ps + z4) + z7))), (2, int i64 (wrap i64 (wrap i64 (wrap i64 (ps + z4) + z7) + z6))), (3, int i64 depth), (8, ref 1 0), (14, ref 2 0)]) ⟨[some (AObj.cells [lsl nlb 0 csb lenb cpb, int i64 (wrap i64 (cnt + (1 : Int)))] 119 false), some (AObj.cells [int u8 0, AV.bool false, int u32 0, nilS, nilS] 32 false), some (AObj.cells [int u8 z1, AV.bool b2, int u32 z3, nilS, nilS] 32 false)], 0⟩ (exit 2) (frOf 151 [(2, int i64 (wrap i64 (wrap i64 (wrap i64 (ps + z4) + z7) + z6))), (8, ref 1 0), (14, ref 2 0)]) ⟨[some (AObj.cells [lsl nlb 0 csb lenb cpb, int i64 z17] 119 false), some (AObj.cells [int u8 0, AV.bool false, int u32 0, nilS, nilS] 32 false), some (AObj.cells [int u8 z1, AV.bool b2, int u32 z3, nilS, rsl 3 0 n22 none] 32 false), some (AObj.cells cs23 32 true)], 0⟩ ∧ tagLeL 0 cs23 = true ∧ ∃ b24 cs25 n26 cp27, Sm 74 [lsl false 0 cs23 n22 none] ((lsl b24 0 cs25 n26 cp27)) ∧ K (AOut.ret (tup [agg [int u8 z1, AV.bool b2, int u32 z3, nilS, lsl b24 0 cs25 n26 cp27], int i64 (wrap i64 (wrap i64 (wrap i64 (ps + z4) + z7) + z6))])) ⟨[some (AObj.cells [lsl nlb 0 csb lenb cpb, int i64 z17] 119 false), some (AObj.cells [int u8 z1, AV.bool b2, int u32 z3, nilS, lsl b24 0 cs25 n26 cp27] 32 false), some (AObj.cells [int u8 z1, AV.bool b2, int u32 z3, nilS, lsl b24 0 cs25 n26 cp27] 32 false), none], 0⟩) ∨ ∃ z28 z29, Cd 1 (Code.loop (bodyL Tryd.f57 2)) (frOf 151 [(0, ref 0 0), (1, int i64 (wrap i64 (wrap i64 (ps + z4) + z7))), (2, int i64 (wrap i64 (wrap i64 (wrap i64 (ps + z4) + z7) + z6))), (3, int i64 depth), (8, ref 1 0), (14, ref 2 0)]) ⟨[some (AObj.cells [lsl nlb 0 csb lenb cpb, int i64 (wrap i64 (cnt + (1 : Int)))] 119 false), some (AObj.cells [int u8 0, AV.bool false, int u32 0, nilS, nilS] 32 false), some (AObj.cells [int u8 z1, AV.bool b2, int u32 z3, nilS, nilS] 32 false)], 0⟩ (AExit.panic (iface 116 (agg [int i64 z28, int i64 z29]))) (frOf 151 [(2, any), (8, any), (14, any)]) ⟨[some (AObj.cells [lsl nlb 0 csb lenb cpb, int i64 z17] 119 false), none, none, none], 0⟩ ∧ K (AOut.panic (iface 116 (agg [int i64 z28, int i64 z29]))) ⟨[some (AObj.cells [lsl nlb 0 csb lenb cpb, int i64 z17] 119 false), none, none, none], 0⟩))))))))) := by kernel_rfl
end

/-! tags.Get -/
def Byt (s : List Int) : Prop := ∀ b ∈ s, 0 ≤ b ∧ b < 256

abbrev bN (z : Int) : Nat := Int.toNat ((((Int.toNat (z % (256 : Int)) &&& 127) % 256 % 4294967296 % 4294967296 : Nat) : Int))
abbrev nA (z1 : Int) : Nat := (0 ||| bN z1) % 4294967296
abbrev nS (p : Nat) (z : Int) : Nat := (Int.toNat ((p * 128 % 4294967296 % 4294967296 : Nat) : Int) ||| bN z) % 4294967296

def num3 (n : Nat) (sz : Int) : Int × Int × Int := if (n : Int) < 31 then (0, 0, 9) else ((n : Int), sz, 0)
/-- A number in groups, behind the first octet: it, the octets, the error. -/
def numM : List Int → Int × Int × Int
  | _ :: z1 :: r => if z1 = 128 then (0, 0, 9) else if z1 < 128 then num3 (nA z1) 2 else match r with
    | [] => (0, 0, 7)
    | z3 :: r => if z3 < 128 then num3 (nS (nA z1) z3) 3 else match r with
      | [] => (0, 0, 7)
      | z5 :: r => if z5 < 128 then num3 (nS (nS (nA z1) z3) z5) 4 else match r with
        | [] => (0, 0, 7)
        | z7 :: _ => if z7 ≥ 128 then (0, 0, 9) else num3 (nS (nS (nS (nA z1) z3) z5) z7) 5
  | _ => (0, 0, 7)

theorem sum84 {s : List Int} (hs : s ≠ []) {a : AV} (h : SI .u8 s a) : Sm 84 [a] (.tup [.int .u32 (numM s).1, .int .i64 (numM s).2.1, .int .i64 (numM s).2.2]) := by
  obtain ⟨nl, ex, cp, rfl, hc, hl, hn⟩ := h
  have hnl : nl = false := by
    cases nl
    · rfl
    · exact absurd (hn rfl) hs
  refine sum_vc (vc84 ..) ?_
  have fin : ∀ (n : Nat) (sz : Int), br (decide ((n : Int) < (31 : Int))) (AOut.ret (.tup [.int .u32 0, .int .i64 0, .int .i64 9]) = AOut.ret (.tup [.int .u32 (num3 n sz).1, .int .i64 (num3 n sz).2.1, .int .i64 (num3 n sz).2.2])) (AOut.ret (.tup [.int .u32 (n : Int), .int .i64 sz, .int .i64 0]) = AOut.ret (.tup [.int .u32 (num3 n sz).1, .int .i64 (num3 n sz).2.1, .int .i64 (num3 n sz).2.2])) := by
    intro n sz
    unfold num3
    refine br_i (fun h => ?_) (fun h => ?_)
    · rw [if_pos (of_decide_eq_true h)]
    · rw [if_neg (of_decide_eq_false h)]
  match s, hs with
  | [_], _ => exact br_t rfl rfl
  | z0 :: z1 :: r, _ =>
    refine br_f (by simp; omega) ⟨hnl, by omega, by simp only [List.length_cons]; omega, _, _, rfl, ?_⟩
    refine br_i (fun h1 => ?_) (fun h1 => ?_)
    · have h1 : z1 = 128 := by simpa using h1
      simp [numM, h1]
    have h1 : z1 ≠ 128 := by simpa using h1
    refine br_i (fun h2 => ?_) (fun h2 => ?_)
    · have h2 := of_decide_eq_true h2
      have : numM (z0 :: z1 :: r) = num3 (nA z1) 2 := by simp [numM, h1, h2]
      rw [this]
      exact fin _ _
    have h2 := of_decide_eq_false h2
    match r with
    | [] => exact br_t rfl (by simp [numM, h1, h2])
    | z3 :: r =>
      refine br_f (by simp; omega) ⟨hnl, by omega, by simp only [List.length_cons]; omega, _, _, rfl, ?_⟩
      refine br_i (fun h3 => ?_) (fun h3 => ?_)
      · have h3 := of_decide_eq_true h3
        have : numM (z0 :: z1 :: z3 :: r) = num3 (nS (nA z1) z3) 3 := by simp [numM, h1, h2, h3]
        rw [this]
        exact fin _ _
      have h3 := of_decide_eq_false h3
      match r with
      | [] => exact br_t rfl (by simp [numM, h1, h2, h3])
      | z5 :: r =>
        refine br_f (by simp; omega) ⟨hnl, by omega, by simp only [List.length_cons]; omega, _, _, rfl, ?_⟩
        refine br_i (fun h4 => ?_) (fun h4 => ?_)
        · have h4 := of_decide_eq_true h4
          have : numM (z0 :: z1 :: z3 :: z5 :: r) = num3 (nS (nS (nA z1) z3) z5) 4 := by simp [numM, h1, h2, h3, h4]
          rw [this]
          exact fin _ _
        have h4 := of_decide_eq_false h4
        match r with
        | [] => exact br_t rfl (by simp [numM, h1, h2, h3, h4])
        | z7 :: r =>
          refine br_f (by simp; omega) ⟨hnl, by omega, by simp only [List.length_cons]; omega, _, _, rfl, ?_⟩
          refine br_i (fun h5 => ?_) (fun h5 => br_t ?_ ?_)
          · have h5 := of_decide_eq_true h5
            simp [numM, h1, h2, h3, h4, h5]
          · have h5 := of_decide_eq_false h5
            exact decide_eq_true (by omega)
          · have h5 := of_decide_eq_false h5
            have : numM (z0 :: z1 :: z3 :: z5 :: z7 :: r) = num3 (nS (nS (nS (nA z1) z3) z5) z7) 5 := by simp [numM, h1, h2, h3, h4, h5]
            rw [this]
            exact fin _ _

/-- The tag in front: class, constructed, number; octets; error. -/
def tagGet : List Int → (Int × Bool × Int) × Int × Int
  | [] => ((0, false, 0), 0, 7)
  | b :: r =>
    let c := b.fdiv 64
    let k := ((((Int.toNat (b % (256 : Int)) &&& 32) % 256 : Nat) : Int) != (0 : Int))
    let n0 := ((((Int.toNat (b % (256 : Int)) &&& 31) % 256 % 4294967296 : Nat)) : Int)
    if n0 = 31 then
      (if (numM (b :: r)).2.2 = 0 then (if tagErr c k (numM (b :: r)).1 ≠ 0 then ((0, false, 0), 0, tagErr c k (numM (b :: r)).1) else ((c, k, (numM (b :: r)).1), (numM (b :: r)).2.1, 0))
      else ((0, false, 0), 0, (numM (b :: r)).2.2))
    else if tagErr c k n0 ≠ 0 then ((0, false, 0), 0, tagErr c k n0) else ((c, k, n0), 1, 0)

theorem sum71 {s : List Int} {a : AV} (h : SI .u8 s a) : Sm 71 [a] (.tup [.agg [.int .u8 (tagGet s).1.1, .bool (tagGet s).1.2.1, .int .u32 (tagGet s).1.2.2], .int .i64 (tagGet s).2.1, .int .i64 (tagGet s).2.2]) := by
  have h0 := h
  obtain ⟨nl, ex, cp, rfl, hc, hl, hn⟩ := h
  refine sum_vc (vc71 ..) ?_
  match s, hn with
  | [], _ => exact br_t rfl rfl
  | b :: r, hn =>
    have hnl : nl = false := by
      cases nl
      · rfl
      · exact absurd (hn rfl) (by simp)
    refine br_f (by simp; omega) ⟨hnl, by omega, by simp only [List.length_cons]; omega, _, _, rfl, hnl, by omega, by simp only [List.length_cons]; omega, _, _, rfl, hnl, by omega, by simp only [List.length_cons]; omega, _, _, rfl, ?_⟩
    refine br_i (fun h1 => ⟨_, _, _, sum84 (by simp) h0, br_i (fun h2 => ⟨_, sum77 _ _ _, br_i (fun h3 => ?_) (fun h3 => ?_)⟩) (fun h2 => br_t ?_ ?_)⟩) (fun h1 => ⟨_, sum77 _ _ _, br_i (fun h3 => ?_) (fun h3 => ?_)⟩)
    · have h1 := eq_of_beq h1
      have h2 := eq_of_beq h2
      have h3 := bne_iff_ne.1 h3
      simp only [tagGet]
      rw [if_pos h1, if_pos h2, if_pos h3]
    · have h1 := eq_of_beq h1
      have h2 := eq_of_beq h2
      have h3 : ¬ _ ≠ (0 : Int) := fun e => by rw [bne_iff_ne.2 e] at h3; cases h3
      simp only [tagGet]
      rw [if_pos h1, if_pos h2, if_neg h3]
    · simpa using h2
    · have h1 := eq_of_beq h1
      have h2 : (numM (b :: r)).2.2 ≠ 0 := by simpa using h2
      simp only [tagGet]
      rw [if_pos h1, if_neg h2]
    · have h1 := ne_of_beq_false h1
      have h3 := bne_iff_ne.1 h3
      simp only [tagGet]
      rw [if_neg h1, if_pos h3]
    · have h1 := ne_of_beq_false h1
      have h3 : ¬ _ ≠ (0 : Int) := fun e => by rw [bne_iff_ne.2 e] at h3; cases h3
      simp only [tagGet]
      rw [if_neg h1, if_neg h3]

/-! lengths.Get -/
def lenV (x y z : Int) : Int := IntKind.i64.wrap (((Int.toNat (IntKind.i64.wrap (((Int.toNat (IntKind.i64.wrap (IntKind.i64.wrap x * (65536 : Int)) % (18446744073709551616 : Int)) ||| Int.toNat (IntKind.i64.wrap (IntKind.i64.wrap y * (256 : Int)) % (18446744073709551616 : Int)) : Nat)) : Int) % (18446744073709551616 : Int)) ||| Int.toNat (IntKind.i64.wrap z % (18446744073709551616 : Int)) : Nat)) : Int)
def lenN : Nat → List Int → Int
  | 1, a :: _ => lenV 0 0 a
  | 2, a :: b :: _ => lenV 0 a b
  | 3, a :: b :: c :: _ => lenV a b c
  | _, _ => 0

/-- The length in front: it; octets; error. -/
def lenGet : List Int → Int × Int × Int
  | [] => (0, 0, 7)
  | b :: r =>
    if b ≤ 127 then (b, 1, 0) else if b = 128 then (0, 0, 10) else if b > 131 then (0, 0, 10) else if (r.length : Int) < b - 128 then (0, 0, 7)
    else if r.headD 0 = 0 then (0, 0, 10) else if lenN (b - 128).toNat r ≤ 127 then (0, 0, 10) else (lenN (b - 128).toNat r, b - 128 + 1, 0)

theorem sum72 {s : List Int} (hs : Byt s) {a : AV} (h : SI .u8 s a) : Sm 72 [a] (.tup [.int .i64 (lenGet s).1, .int .i64 (lenGet s).2.1, .int .i64 (lenGet s).2.2]) := by
  obtain ⟨nl, ex, cp, rfl, hc, hl, hn⟩ := h
  refine sum_vc (vc72 ..) ?_
  match s, hn with
  | [], _ => exact br_t rfl rfl
  | b :: r, hn =>
    have hnl : nl = false := by
      cases nl
      · rfl
      · exact absurd (hn rfl) (by simp)
    have hb := hs b (List.mem_cons_self ..)
    have hwb : IntKind.i64.wrap b = b := wrap_small (by omega) (by omega)
    have hwm : IntKind.i64.wrap (b - 128) = b - 128 := wrap_small (by omega) (by omega)
    simp only [lenGet]
    refine br_f (by simp; omega) ⟨hnl, by omega, by simp only [List.length_cons]; omega, _, _, rfl, ?_⟩
    refine br_i (fun h1 => ⟨hnl, by omega, by simp only [List.length_cons]; omega, _, _, rfl, ?_⟩) (fun h1 => ⟨hnl, by omega, by simp only [List.length_cons]; omega, _, _, rfl, ?_⟩)
    · rw [if_pos (of_decide_eq_true h1), hwb]
    have h1 := of_decide_eq_false h1
    rw [if_neg h1, hwb, hwm]
    refine br_i (fun h2 => ?_) (fun h2 => br_i (fun h3 => ?_) (fun h3 => br_i (fun h4 => ?_) (fun h4 => ?_)))
    · have h2 : b = 128 := by have : b - 128 = 0 := by simpa using h2
                              omega
      rw [if_pos h2]
    · have h2 : b ≠ 128 := by intro e; subst e; simp at h2
      have h3 : b > 131 := by have := of_decide_eq_true h3; omega
      rw [if_neg h2, if_pos h3]
    · have h2 : b ≠ 128 := by intro e; subst e; simp at h2
      have h3 : ¬ b > 131 := by have := of_decide_eq_false h3; omega
      have h4 : (r.length : Int) < b - 128 := by have := of_decide_eq_true h4; simp only [List.length_cons] at this; omega
      rw [if_neg h2, if_neg h3, if_pos h4]
    · have h2 : b ≠ 128 := by intro e; subst e; simp at h2
      have h3 : ¬ b > 131 := by have := of_decide_eq_false h3; omega
      have h4 : ¬ (r.length : Int) < b - 128 := by have := of_decide_eq_false h4; simp only [List.length_cons] at this; omega
      rw [if_neg h2, if_neg h3, if_neg h4]
      have hw3 : IntKind.i64.wrap (3 - (b - 128)) = 3 - (b - 128) := wrap_small (by omega) (by omega)
      have hw1 : IntKind.i64.wrap (b - 128 + 1) = b - 128 + 1 := wrap_small (by omega) (by omega)
      rw [hw3, hw1]
      have hb3 : b = 129 ∨ b = 130 ∨ b = 131 := by omega
      have hlc : ((b :: r).length - 1) = r.length := by simp
      have hd1 : (if (b :: r).length = 1 then [] else List.drop 1 ((b :: r).map (AV.int .u8) ++ ex)) = r.map (AV.int .u8) ++ (if r = [] then [] else ex) := by
        cases r with
        | nil => simp
        | cons y ys => simp
      rw [hlc, hd1]
      have fin : ∀ (x y z a : Int) (t : List Int), r = a :: t → lenN (b - 128).toNat r = lenV x y z → (nl = false ∧ (0 : Int) ≤ 1 ∧ (1 : Int) < ((b :: r).length : Nat) ∧ ∃ z13 cs14, List.drop 1 ((b :: r).map (AV.int .u8) ++ ex) = .int .u8 z13 :: cs14 ∧
          br (z13 == (0 : Int)) (AOut.ret (.tup [.int .i64 0, .int .i64 0, .int .i64 10]) = AOut.ret (.tup [.int .i64 (if r.headD 0 = 0 then ((0 : Int), (0 : Int), (10 : Int)) else if lenN (b - 128).toNat r ≤ 127 then (0, 0, 10) else (lenN (b - 128).toNat r, b - 128 + 1, 0)).1, .int .i64 (if r.headD 0 = 0 then ((0 : Int), (0 : Int), (10 : Int)) else if lenN (b - 128).toNat r ≤ 127 then (0, 0, 10) else (lenN (b - 128).toNat r, b - 128 + 1, 0)).2.1, .int .i64 (if r.headD 0 = 0 then ((0 : Int), (0 : Int), (10 : Int)) else if lenN (b - 128).toNat r ≤ 127 then (0, 0, 10) else (lenN (b - 128).toNat r, b - 128 + 1, 0)).2.2]))
            (br (decide (lenV x y z ≤ (127 : Int))) (AOut.ret (.tup [.int .i64 0, .int .i64 0, .int .i64 10]) = AOut.ret (.tup [.int .i64 (if r.headD 0 = 0 then ((0 : Int), (0 : Int), (10 : Int)) else if lenN (b - 128).toNat r ≤ 127 then (0, 0, 10) else (lenN (b - 128).toNat r, b - 128 + 1, 0)).1, .int .i64 (if r.headD 0 = 0 then ((0 : Int), (0 : Int), (10 : Int)) else if lenN (b - 128).toNat r ≤ 127 then (0, 0, 10) else (lenN (b - 128).toNat r, b - 128 + 1, 0)).2.1, .int .i64 (if r.headD 0 = 0 then ((0 : Int), (0 : Int), (10 : Int)) else if lenN (b - 128).toNat r ≤ 127 then (0, 0, 10) else (lenN (b - 128).toNat r, b - 128 + 1, 0)).2.2]))
              (AOut.ret (.tup [.int .i64 (lenV x y z), .int .i64 (b - 128 + 1), .int .i64 0]) = AOut.ret (.tup [.int .i64 (if r.headD 0 = 0 then ((0 : Int), (0 : Int), (10 : Int)) else if lenN (b - 128).toNat r ≤ 127 then (0, 0, 10) else (lenN (b - 128).toNat r, b - 128 + 1, 0)).1, .int .i64 (if r.headD 0 = 0 then ((0 : Int), (0 : Int), (10 : Int)) else if lenN (b - 128).toNat r ≤ 127 then (0, 0, 10) else (lenN (b - 128).toNat r, b - 128 + 1, 0)).2.1, .int .i64 (if r.headD 0 = 0 then ((0 : Int), (0 : Int), (10 : Int)) else if lenN (b - 128).toNat r ≤ 127 then (0, 0, 10) else (lenN (b - 128).toNat r, b - 128 + 1, 0)).2.2])))) := by
        rintro x y z a t rfl hln
        rw [hln]
        refine ⟨hnl, by omega, by simp only [List.length_cons]; omega, _, _, rfl, br_i (fun h5 => ?_) (fun h5 => br_i (fun h6 => ?_) (fun h6 => ?_))⟩
        · have h5 : a = 0 := by simpa using h5
          rw [if_pos (show List.headD (a :: t) 0 = 0 from h5)]
        · have h5 : a ≠ 0 := by simpa using h5
          rw [if_neg (show ¬ List.headD (a :: t) 0 = 0 from h5), if_pos (of_decide_eq_true h6)]
        · have h5 : a ≠ 0 := by simpa using h5
          rw [if_neg (show ¬ List.headD (a :: t) 0 = 0 from h5), if_neg (of_decide_eq_false h6)]
      refine ⟨by omega, by omega, by omega, by simp only [List.length_cons]; omega, by simp, ?_, ?_⟩
      · rcases hb3 with rfl | rfl | rfl <;> simp <;> omega
      · rcases hb3 with rfl | rfl | rfl
        · match r, h4 with
          | a :: t, _ =>
            exact ⟨0, [.int .u8 0, .int .u8 a], by simp [putL], 0, [.int .u8 a], by simp [putL], a, [], by simp [putL], fin 0 0 a a t rfl rfl⟩
          | [], h4 => exact absurd h4 (by simp)
        · match r, h4 with
          | a :: b :: t, _ =>
            exact ⟨0, [.int .u8 a, .int .u8 b], by simp [putL], a, [.int .u8 b], by simp [putL], b, [], by simp [putL], fin 0 a b a (b :: t) rfl rfl⟩
          | [_], h4 => exact absurd h4 (by simp)
          | [], h4 => exact absurd h4 (by simp)
        · match r, h4 with
          | a :: b :: c :: t, _ =>
            exact ⟨a, [.int .u8 b, .int .u8 c], by simp [putL], b, [.int .u8 c], by simp [putL], c, [], by simp [putL], fin a b c a (b :: c :: t) rfl rfl⟩
          | [_, _], h4 => exact absurd h4 (by simp)
          | [_], h4 => exact absurd h4 (by simp)
          | [], h4 => exact absurd h4 (by simp)

end Go.Vid
