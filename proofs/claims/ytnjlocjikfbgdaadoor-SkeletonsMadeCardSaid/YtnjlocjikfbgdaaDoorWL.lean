/-
Encodings: summaries.
-/
import Derived.Test.YtnjlocjikfbgdaaDoorWK
import Derived.Test.YtnjlocjikfbgdaaDoorKD
set_option linter.all false
namespace Go.Vid
open Go.Proofs
set_option maxRecDepth 100000
set_option linter.unusedVariables false
section
open AExit AOut AV IntKind
abbrev tb_r65 : List (FuncId × Sc) := [(65, { ops := [(7, [(0, Kd.w)])], calls := [(8, [(2, Sh.nat fun m => Sh.nat fun c => Sh.cells fun cs => Sh.one (AOut.ret (rsl 0 0 m (some c)), ⟨[some (AObj.cells cs 5 false)], 0⟩))])], lax := [5] })]
theorem r65 (i : Int) (nls : Bool) (len cap lens : Nat) (css cso : List AV) (cps : Option Nat) (K : AExit → List (Nat × AV) → St → Prop) : (roundT Tryd.prog env tb_r65 65 (bodyL Tryd.f65 0) 0 44 [0, 33, 34, 35] [0] [(0, rsl 0 0 len (some cap)), (33, lsl nls 0 css lens cps), (34, int i64 (↑lens : Int)), (35, int i64 i)] ⟨[some (AObj.cells cso 5 false)], 0⟩ K) =
    (br (decide (i < (↑lens : Int))) (nls = false ∧ (0 : Int) ≤ i ∧ i < (↑lens : Int) ∧ ∃ z1 b2 z3 b4 cs5 n6 cp7 b8 cs9 n10 cp11 cs12, List.drop (Int.toNat i * 5) css = int u8 z1 :: AV.bool b2 :: int u32 z3 :: lsl b4 0 cs5 n6 cp7 :: lsl b8 0 cs9 n10 cp11 :: cs12 ∧ tagLeL 0 cso = true ∧ ∃ n13 n14 cs15, Xf 65 [rsl 0 0 len (some cap), agg [int u8 z1, AV.bool b2, int u32 z3, lsl b4 0 cs5 n6 cp7, lsl b8 0 cs9 n10 cp11]] ⟨[some (AObj.cells cso 5 false)], 0⟩ (AOut.ret (rsl 0 0 n13 (some n14))) ⟨[some (AObj.cells cs15 5 false)], 0⟩ ∧ tagLeL 0 cs15 = true ∧ tagLeL 0 cs15 = true ∧ K normal [(0, rsl 0 0 n13 (some n14)), (33, lsl nls 0 css lens cps), (34, int i64 (↑lens : Int)), (35, int i64 (wrap i64 (i + (1 : Int))))] ⟨[some (AObj.cells cs15 5 false)], 0⟩) (tagLeL 0 cso = true ∧ K (exit 0) [(0, rsl 0 0 len (some cap))] ⟨[some (AObj.cells cso 5 false)], 0⟩)) := by kernel_rfl
theorem vc65 (ec en : Int) (ek nle1 nle2 : Bool) (len cap lene1 lene2 : Nat) (cse1 cse2 cso : List AV) (cpe1 cpe2 : Option Nat) (K : AOut → St → Prop) : (fnX Tryd.prog env [(65, { ops := [(3, [(2, Kd.wi), (4, Kd.wi)]), (4, [(3, Kd.w)])], loops := [(0, LoopS.inv [0, 33, 34, 35] fun _ σ => Sh.nat fun m => Sh.nat fun c => Sh.cells fun cs => Sh.one (exit 0, [(0, rsl 0 0 m (some c))], ⟨[some (AObj.cells cs 5 false)], 0⟩))], lax := [5] })] 65 [rsl 0 0 len (some cap), agg [int u8 ec, AV.bool ek, int u32 en, lsl nle1 0 cse1 lene1 cpe1, lsl nle2 0 cse2 lene2 cpe2]] ⟨[some (AObj.cells cso 5 false)], 0⟩ K) =
    (∃ b1 cs2 n3 cp4 z5, Sm 80 [agg [int u8 ec, AV.bool ek, int u32 en]] ((tup [lsl b1 0 cs2 n3 cp4, int i64 z5])) ∧ ∃ z6, Sm 66 [agg [int u8 ec, AV.bool ek, int u32 en, lsl nle1 0 cse1 lene1 cpe1, lsl nle2 0 cse2 lene2 cpe2]] ((int i64 z6)) ∧ ∃ b7 cs8 n9 cp10 z11, Sm 81 [int i64 z6] ((tup [lsl b7 0 cs8 n9 cp10, int i64 z11])) ∧ n3 * 1 ≤ List.length cs2 ∧ n3 ≠ 0 ∧ len + n3 ≤ cap ∧ 0 + (len + n3) * 1 ≤ List.length cso ∧ n9 * 1 ≤ List.length cs8 ∧ n9 ≠ 0 ∧ len + n3 + n9 ≤ cap ∧ 0 + (len + n3 + n9) * 1 ≤ List.length (putL cso (0 + len * 1) (List.take (n3 * 1) cs2)) ∧ lene1 * 1 ≤ List.length cse1 ∧ br (Nat.beq lene1 0) (tagLeL 0 (putL (putL cso (0 + len * 1) (List.take (n3 * 1) cs2)) (0 + (len + n3) * 1) (List.take (n9 * 1) cs8)) = true ∧ ∃ n12 n13 cs14, Cd 0 (Code.loop (bodyL Tryd.f65 0)) (frOf 44 [(0, rsl 0 0 (len + n3 + n9) (some cap)), (33, lsl nle2 0 cse2 lene2 cpe2), (34, int i64 (↑lene2 : Int)), (35, int i64 0)]) ⟨[some (AObj.cells (putL (putL cso (0 + len * 1) (List.take (n3 * 1) cs2)) (0 + (len + n3) * 1) (List.take (n9 * 1) cs8)) 5 false)], 0⟩ (exit 0) (frOf 44 [(0, rsl 0 0 n12 (some n13))]) ⟨[some (AObj.cells cs14 5 false)], 0⟩ ∧ tagLeL 0 cs14 = true ∧ K (AOut.ret (rsl 0 0 n12 (some n13))) ⟨[some (AObj.cells cs14 5 false)], 0⟩) (br (Nat.ble (len + n3 + n9 + lene1) cap) (0 + (len + n3 + n9 + lene1) * 1 ≤ List.length (putL (putL cso (0 + len * 1) (List.take (n3 * 1) cs2)) (0 + (len + n3) * 1) (List.take (n9 * 1) cs8)) ∧ tagLeL 0 (putL (putL (putL cso (0 + len * 1) (List.take (n3 * 1) cs2)) (0 + (len + n3) * 1) (List.take (n9 * 1) cs8)) (0 + (len + n3 + n9) * 1) (List.take (lene1 * 1) cse1)) = true ∧ ∃ n15 n16 cs17, Cd 0 (Code.loop (bodyL Tryd.f65 0)) (frOf 44 [(0, rsl 0 0 (len + n3 + n9 + lene1) (some cap)), (33, lsl nle2 0 cse2 lene2 cpe2), (34, int i64 (↑lene2 : Int)), (35, int i64 0)]) ⟨[some (AObj.cells (putL (putL (putL cso (0 + len * 1) (List.take (n3 * 1) cs2)) (0 + (len + n3) * 1) (List.take (n9 * 1) cs8)) (0 + (len + n3 + n9) * 1) (List.take (lene1 * 1) cse1)) 5 false)], 0⟩ (exit 0) (frOf 44 [(0, rsl 0 0 n15 (some n16))]) ⟨[some (AObj.cells cs17 5 false)], 0⟩ ∧ tagLeL 0 cs17 = true ∧ K (AOut.ret (rsl 0 0 n15 (some n16))) ⟨[some (AObj.cells cs17 5 false)], 0⟩) (0 + (len + n3 + n9) * 1 ≤ List.length (putL (putL cso (0 + len * 1) (List.take (n3 * 1) cs2)) (0 + (len + n3) * 1) (List.take (n9 * 1) cs8)) ∧ (len + n3 + n9 + lene1) * 1 ≤ 70368744177664 ∧ len + n3 + n9 + lene1 ≤ 70368744177664 ∧ tagLeL 0 (List.take ((len + n3 + n9) * 1) (List.drop 0 (putL (putL cso (0 + len * 1) (List.take (n3 * 1) cs2)) (0 + (len + n3) * 1) (List.take (n9 * 1) cs8))) ++ List.take (lene1 * 1) cse1) = true ∧ ∃ n18 n19 cs20, Cd 0 (Code.loop (bodyL Tryd.f65 0)) (frOf 44 [(0, rsl 0 0 (len + n3 + n9 + lene1) none), (33, lsl nle2 0 cse2 lene2 cpe2), (34, int i64 (↑lene2 : Int)), (35, int i64 0)]) ⟨[some (AObj.cells (List.take ((len + n3 + n9) * 1) (List.drop 0 (putL (putL cso (0 + len * 1) (List.take (n3 * 1) cs2)) (0 + (len + n3) * 1) (List.take (n9 * 1) cs8))) ++ List.take (lene1 * 1) cse1) 5 true)], 0⟩ (exit 0) (frOf 44 [(0, rsl 0 0 n18 (some n19))]) ⟨[some (AObj.cells cs20 5 false)], 0⟩ ∧ tagLeL 0 cs20 = true ∧ K (AOut.ret (rsl 0 0 n18 (some n19))) ⟨[some (AObj.cells cs20 5 false)], 0⟩))) := by kernel_rfl
theorem vc50 (ec en : Int) (ek nle1 nle2 : Bool) (lene1 lene2 : Nat) (cse1 cse2 : List AV) (cpe1 cpe2 : Option Nat) (K : AOut → Prop) : (dataT Tryd.prog env [(50, { ops := [(7, [(1, Kd.w)])], calls := [(7, [(3, Sh.nat fun m => Sh.nat fun c => Sh.cells fun cs => Sh.one (AOut.ret (rsl 0 0 m (some c)), ⟨[some (AObj.cells cs 5 false)], 0⟩))])], lax := [5] })] 50 [agg [int u8 ec, AV.bool ek, int u32 en, lsl nle1 0 cse1 lene1 cpe1, lsl nle2 0 cse2 lene2 cpe2]] K) =
    (∃ z1, Sm 37 [agg [int u8 ec, AV.bool ek, int u32 en, lsl nle1 0 cse1 lene1 cpe1, lsl nle2 0 cse2 lene2 cpe2]] ((int i64 z1)) ∧ br (z1 != (0 : Int)) (K (AOut.ret (tup [nilS, int i64 z1]))) (∃ z2, Sm 52 [agg [int u8 ec, AV.bool ek, int u32 en, lsl nle1 0 cse1 lene1 cpe1, lsl nle2 0 cse2 lene2 cpe2]] ((int i64 z2)) ∧ br (decide (z2 > (1048576 : Int))) (K (AOut.ret (tup [nilS, int i64 3]))) ((0 : Int) ≤ (0 : Int) ∧ (0 : Int) ≤ z2 ∧ z2 ≤ (70368744177664 : Int) ∧ Int.toNat z2 * 1 ≤ 70368744177664 ∧ tagLeL 0 (madeRow [int u8 0] (Int.toNat z2 * 1)) = true ∧ ∃ n3 n4 cs5, Xf 65 [rsl 0 0 0 (some (Int.toNat z2)), agg [int u8 ec, AV.bool ek, int u32 en, lsl nle1 0 cse1 lene1 cpe1, lsl nle2 0 cse2 lene2 cpe2]] ⟨[some (AObj.cells (madeRow [int u8 0] (Int.toNat z2 * 1)) 5 false)], 0⟩ (AOut.ret (rsl 0 0 n3 (some n4))) ⟨[some (AObj.cells cs5 5 false)], 0⟩ ∧ tagLeL 0 cs5 = true ∧ tagLeL 0 cs5 = true ∧ K (AOut.ret (tup [lsl false 0 cs5 n3 (some n4), int i64 0]))))) := by kernel_rfl
abbrev tb_r51 : List (FuncId × Sc) := [(51, { ops := [(3, [(0, Kd.w)])] })]
theorem r51 (a i : Int) (nls : Bool) (lens : Nat) (css : List AV) (cps : Option Nat) (K : AExit → List (Nat × AV) → St → Prop) : (roundT Tryd.prog env tb_r51 51 (bodyL Tryd.f51 0) 0 24 [2, 7, 8, 9] [2] [(2, int i64 a), (7, lsl nls 0 css lens cps), (8, int i64 (↑lens : Int)), (9, int i64 i)] ⟨[], 0⟩ K) =
    (br (decide (i < (↑lens : Int))) (nls = false ∧ (0 : Int) ≤ i ∧ i < (↑lens : Int) ∧ ∃ z1 b2 z3 b4 cs5 n6 cp7 b8 cs9 n10 cp11 cs12, List.drop (Int.toNat i * 5) css = int u8 z1 :: AV.bool b2 :: int u32 z3 :: lsl b4 0 cs5 n6 cp7 :: lsl b8 0 cs9 n10 cp11 :: cs12 ∧ ∃ b13 cs14 n15 cp16 z17, Sm 50 [agg [int u8 z1, AV.bool b2, int u32 z3, lsl b4 0 cs5 n6 cp7, lsl b8 0 cs9 n10 cp11]] ((tup [lsl b13 0 cs14 n15 cp16, int i64 z17])) ∧ K normal [(2, int i64 (wrap i64 (a + (↑n15 : Int)))), (7, lsl nls 0 css lens cps), (8, int i64 (↑lens : Int)), (9, int i64 (wrap i64 (i + (1 : Int))))] ⟨[], 0⟩) (K (exit 0) [(2, int i64 a)] ⟨[], 0⟩)) := by kernel_rfl
theorem vc51 (nls : Bool) (lens : Nat) (css : List AV) (cps : Option Nat) (K : AOut → Prop) : (dataT Tryd.prog env [(51, { loops := [(0, LoopS.inv [2, 7, 8, 9] fun _ σ => Sh.int fun a => Sh.one (exit 0, [(2, int i64 a)], ⟨[], 0⟩))] })] 51 [lsl nls 0 css lens cps] K) =
    (∃ z1, Cd 0 (Code.loop (bodyL Tryd.f51 0)) (frOf 24 [(2, int i64 0), (7, lsl nls 0 css lens cps), (8, int i64 (↑lens : Int)), (9, int i64 0)]) ⟨[], 0⟩ (exit 0) (frOf 24 [(2, int i64 z1)]) ⟨[], 0⟩ ∧ K (AOut.ret (int i64 z1))) := by kernel_rfl
abbrev tb_r32 : List (FuncId × Sc) := [(32, { ops := [(7, [(0, Kd.w)]), (11, [(7, Kd.w)])] })]
theorem r32 (a i ec en : Int) (nls ek nle1 nle2 : Bool) (lens lene1 lene2 : Nat) (css cse1 cse2 : List AV) (cps cpe1 cpe2 : Option Nat) (K : AExit → List (Nat × AV) → St → Prop) : (roundT Tryd.prog env tb_r32 32 (bodyL Tryd.f32 0) 0 49 [2, 8, 21, 22, 23] [8, 4, 5] [(2, ref 0 0), (8, int i64 a), (21, lsl nls 0 css lens cps), (22, int i64 (↑lens : Int)), (23, int i64 i)] ⟨[some (AObj.cells [int u8 ec, AV.bool ek, int u32 en, lsl nle1 0 cse1 lene1 cpe1, lsl nle2 0 cse2 lene2 cpe2] 32 false)], 0⟩ K) =
    (br (decide (i < (↑lens : Int))) (nls = false ∧ (0 : Int) ≤ i ∧ i < (↑lens : Int) ∧ ∃ z1 cs2, List.drop (Int.toNat i * 1) css = int i64 z1 :: cs2 ∧ ∃ z3 b4 z5 b6 cs7 n8 cp9 b10 cs11 n12 cp13 b14, Sm 48 [agg [int u8 ec, AV.bool ek, int u32 en, lsl nle1 0 cse1 lene1 cpe1, lsl nle2 0 cse2 lene2 cpe2], int i64 z1] ((tup [agg [int u8 z3, AV.bool b4, int u32 z5, lsl b6 0 cs7 n8 cp9, lsl b10 0 cs11 n12 cp13], AV.bool b14])) ∧ br (!b14) (K AExit.ret [(8, int i64 a), (4, int i64 0), (5, int i64 19)] ⟨[], 0⟩) (∃ z15, Sm 51 [lsl false 0 [int u8 ec, AV.bool ek, int u32 en, lsl nle1 0 cse1 lene1 cpe1, lsl nle2 0 cse2 lene2 cpe2] 1 (some 1)] ((int i64 z15)) ∧ (0 : Int) ≤ z1 ∧ z1 ≤ (↑lene2 : Int) ∧ ∃ z16, Sm 51 [lsl nle2 0 (if lene2 = Int.toNat z1 then [] else List.drop (Int.toNat z1 * 5) cse2) (lene2 - Int.toNat z1) (Option.map (fun x => x - Int.toNat z1) cpe2)] ((int i64 z16)) ∧ K normal [(2, ref 0 0), (8, int i64 (wrap i64 (a + wrap i64 (z15 - z16)))), (21, lsl nls 0 css lens cps), (22, int i64 (↑lens : Int)), (23, int i64 (wrap i64 (i + (1 : Int))))] ⟨[some (AObj.cells [int u8 z3, AV.bool b4, int u32 z5, lsl b6 0 cs7 n8 cp9, lsl b10 0 cs11 n12 cp13] 32 false)], 0⟩)) (K (exit 0) [(8, int i64 a), (4, any), (5, any)] ⟨[], 0⟩)) := by kernel_rfl
theorem vc32 (ec en : Int) (ek nle1 nle2 nls : Bool) (lene1 lene2 lens : Nat) (cse1 cse2 css : List AV) (cpe1 cpe2 cps : Option Nat) (K : AOut → Prop) : (dataT Tryd.prog env [(32, { loops := [(0, LoopS.inv [2, 8, 21, 22, 23] fun _ σ => Sh.int fun a => Sh.or (Sh.one (exit 0, [(8, int i64 a), (4, any), (5, any)], ⟨[], 0⟩)) (Sh.one (AExit.ret, [(8, int i64 a), (4, int i64 0), (5, int i64 19)], ⟨[], 0⟩)))] })] 32 [agg [int u8 ec, AV.bool ek, int u32 en, lsl nle1 0 cse1 lene1 cpe1, lsl nle2 0 cse2 lene2 cpe2], lsl nls 0 css lens cps] K) =
    (∃ b1 cs2 n3 cp4 z5, Sm 50 [agg [int u8 ec, AV.bool ek, int u32 en, lsl nle1 0 cse1 lene1 cpe1, lsl nle2 0 cse2 lene2 cpe2]] ((tup [lsl b1 0 cs2 n3 cp4, int i64 z5])) ∧ br (z5 != (0 : Int)) (K (AOut.ret (tup [int i64 0, int i64 z5]))) (∃ z6, Cd 0 (Code.loop (bodyL Tryd.f32 0)) (frOf 49 [(2, ref 0 0), (8, int i64 0), (21, lsl nls 0 css lens cps), (22, int i64 (↑lens : Int)), (23, int i64 0)]) ⟨[some (AObj.cells [int u8 ec, AV.bool ek, int u32 en, lsl nle1 0 cse1 lene1 cpe1, lsl nle2 0 cse2 lene2 cpe2] 32 false)], 0⟩ (exit 0) (frOf 49 [(8, int i64 z6), (4, any), (5, any)]) ⟨[], 0⟩ ∧ K (AOut.ret (tup [int i64 z6, int i64 0])) ∨ Cd 0 (Code.loop (bodyL Tryd.f32 0)) (frOf 49 [(2, ref 0 0), (8, int i64 0), (21, lsl nls 0 css lens cps), (22, int i64 (↑lens : Int)), (23, int i64 0)]) ⟨[some (AObj.cells [int u8 ec, AV.bool ek, int u32 en, lsl nle1 0 cse1 lene1 cpe1, lsl nle2 0 cse2 lene2 cpe2] 32 false)], 0⟩ AExit.ret (frOf 49 [(8, int i64 z6), (4, int i64 0), (5, int i64 19)]) ⟨[], 0⟩ ∧ K (AOut.ret (tup [int i64 0, int i64 19])))) := by kernel_rfl
theorem vc30 (ec en fe : Int) (ek nle1 nle2 nlf : Bool) (lene1 lene2 lenf : Nat) (cse1 cse2 csf : List AV) (cpe1 cpe2 cpf : Option Nat) (K : AOut → Prop) : (dataT Tryd.prog env [] 30 [agg [int u8 ec, AV.bool ek, int u32 en, lsl nle1 0 cse1 lene1 cpe1, lsl nle2 0 cse2 lene2 cpe2], agg [lsl nlf 0 csf lenf cpf, int i64 fe]] K) =
    (br (fe == (0 : Int)) (K (AOut.ret (tup [int i64 0, int i64 0]))) (∃ z1 z2, Sm 32 [agg [int u8 ec, AV.bool ek, int u32 en, lsl nle1 0 cse1 lene1 cpe1, lsl nle2 0 cse2 lene2 cpe2], lsl nlf 0 csf lenf cpf] ((tup [int i64 z1, int i64 z2])) ∧ K (AOut.ret (tup [int i64 z1, int i64 fe])))) := by kernel_rfl
end

/-! encodings -/
theorem xfer_vc {tb : List (FuncId × Sc)} {f : FuncId} {args : List AV} {σ s : St} {o : AOut} {p : Prop} (h : fnX Tryd.prog env tb f args σ (fun out σ' => out = o ∧ σ' = s) = p) (hp : p) : Xf f args σ o s := by
  obtain ⟨out, σ', ⟨rfl, rfl⟩, hc⟩ := fnX_ok env_ok (h ▸ hp)
  exact hc

mutual
def encE : El → List Int
  | .mk c k n bs subs => tagB c k n ++ lenB (if k = false then bs.length else contEs 0 subs) ++ bs ++ encL subs
def encL : List El → List Int
  | [] => []
  | e :: es => encE e ++ encL es
end

mutual
/-- Valid tags; no octets beside elements. -/
def El.Val : El → Prop
  | .mk c k n bs subs => tagErr c k n = 0 ∧ (k = true → bs = []) ∧ (k = false → subs = []) ∧ El.ValL subs
def El.ValL : List El → Prop
  | [] => True
  | e :: es => e.Val ∧ El.ValL es
end

theorem El.ValL.at {l : List El} (h : El.ValL l) {i : Nat} (hi : i < l.length) : l[i].Val := by
  induction l generalizing i with
  | nil => simp at hi
  | cons e es ih =>
    simp only [El.ValL] at h
    cases i with
    | zero => exact h.1
    | succ i => exact ih h.2 (by simpa using hi)

mutual
theorem chk_val : ∀ (e : El) (d cnt lv : Int), (chk e d cnt lv).1 = 0 → e.Val
  | .mk c k n bs subs, d, cnt, lv, h => by
    simp only [chk] at h
    split at h
    · rename_i h1; exact absurd h h1
    · rename_i h1
      have := visE_le (Decidable.not_not.1 h1)
      simp only [El.Val]
      exact ⟨this.1, fun hk => List.length_eq_zero_iff.1 (this.2.1 hk), fun hk => List.length_eq_zero_iff.1 (this.2.2.1 hk), chks_val subs _ _ _ h⟩
theorem chks_val : ∀ (l : List El) (d cnt lv : Int), (chks l d cnt lv).1 = 0 → El.ValL l
  | [], _, _, _, _ => by simp only [El.ValL]
  | e :: es, d, cnt, lv, h => by
    simp only [chks] at h
    split at h
    · rename_i h1; exact absurd h h1
    · rename_i h1
      simp only [El.ValL]
      exact ⟨chk_val e _ _ _ (Decidable.not_not.1 h1), chks_val es _ _ _ h⟩
end

def SzOk (e : El) : Prop := 0 ≤ sizeE e ∧ sizeE e < 2 ^ 22 ∧ 0 ≤ contE e ∧ (contE e ≤ 1048576 → sizeE e = (encE e).length)

theorem total_ok {c : Int} {k : Bool} {n ct : Int} (h : tagErr c k n = 0) (h0 : 0 ≤ ct) (h1 : ct ≤ 1048576) : total (tagB c k n).length ct = (tagB c k n).length + (lenB ct).length + ct := by
  have a1 := tagB_pos h
  have a2 := tagB_len (c := c) (k := k) (n := n)
  have a3 := lenB_pos h0 (by omega)
  have a4 := lenB_len ct
  unfold total
  rw [if_neg (by omega), if_neg (by omega), if_neg (by omega), wrap_small (x := (tagB c k n).length + (lenB ct).length) (by omega) (by omega), wrap_small (by omega) (by omega)]

theorem contEs_ok : ∀ (l : List El), (∀ e ∈ l, SzOk e) → ∀ a : Int, 0 ≤ a → a ≤ 1048577 → a ≤ contEs a l ∧ contEs a l ≤ 1048577 ∧ (contEs a l ≤ 1048576 → contEs a l = a + (encL l).length ∧ ∀ e ∈ l, contE e ≤ 1048576)
  | [], _, a, h0, h1 => by simp [contEs, encL, h1]
  | e :: es, h, a, h0, h1 => by
    obtain ⟨s0, s1, s2, s3⟩ := h e (List.mem_cons_self ..)
    have hw : IntKind.i64.wrap (a + sizeE e) = a + sizeE e := wrap_small (by omega) (by omega)
    have hst : 0 ≤ cstep a (sizeE e) ∧ cstep a (sizeE e) ≤ 1048577 ∧ a ≤ cstep a (sizeE e) ∧ (cstep a (sizeE e) ≤ 1048576 → cstep a (sizeE e) = a + sizeE e) := by
      unfold cstep
      rw [hw]
      split <;> omega
    obtain ⟨i1, i2, i3⟩ := contEs_ok es (fun x hx => h x (List.mem_cons_of_mem _ hx)) (cstep a (sizeE e)) hst.1 hst.2.1
    simp only [contEs, encL]
    refine ⟨by omega, i2, fun hle => ?_⟩
    obtain ⟨j1, j2⟩ := i3 hle
    have h4 := hst.2.2.2 (by omega)
    have hcs : contE e ≤ 1048576 := by
      rcases Int.lt_or_le 1048576 (contE e) with hgt | hle2
      · have : sizeE e = contE e := by rw [sizeE_eq]; unfold szOf; rw [if_pos hgt]
        omega
      · exact hle2
    refine ⟨?_, ?_⟩
    · rw [j1, h4, s3 hcs, List.length_append]; omega
    · intro x hx
      rcases List.mem_cons.1 hx with rfl | hx
      · exact hcs
      · exact j2 x hx

theorem szOk : ∀ e : El, e.Val → e.Bd → SzOk e := by
  refine El.ind fun c k n bs subs ih => ?_
  intro hv hb
  simp only [El.Val] at hv
  simp only [El.Bd] at hb
  have hsub : ∀ e ∈ subs, SzOk e := by
    intro e he
    obtain ⟨i, hi, rfl⟩ := List.getElem_of_mem he
    exact ih _ he (hv.2.2.2.at hi) (hb.2.2.at hi)
  obtain ⟨c1, c2, c3⟩ := contEs_ok subs hsub 0 (by omega) (by omega)
  have hct : 0 ≤ contE (.mk c k n bs subs) ∧ contE (.mk c k n bs subs) ≤ 1048577 ∧ (contE (.mk c k n bs subs) ≤ 1048576 → contE (.mk c k n bs subs) = bs.length + (encL subs).length) := by
    unfold contE
    cases k
    · have := hv.2.2.1 rfl
      subst this
      simp only [if_true, encL, List.length_nil]
      omega
    · have := hv.2.1 rfl
      subst this
      simp only [Bool.true_eq_false, if_false, List.length_nil]
      refine ⟨c1, c2, fun h => ?_⟩
      have := (c3 h).1
      omega
  unfold SzOk
  rw [show sizeE (.mk c k n bs subs) = szOf c k n (contE (.mk c k n bs subs)) from sizeE_eq _]
  have henc : (encE (.mk c k n bs subs)).length = (tagB c k n).length + (lenB (contE (.mk c k n bs subs))).length + bs.length + (encL subs).length := by
    simp only [encE, List.length_append]; rfl
  rw [henc]
  generalize contE (.mk c k n bs subs) = ct at hct
  have a1 := tagB_pos hv.1
  have a2 := tagB_len (c := c) (k := k) (n := n)
  have a4 := lenB_len ct
  unfold szOf
  by_cases hgt : ct > 1048576
  · rw [if_pos hgt]; omega
  · rw [if_neg hgt, total_ok hv.1 (by omega) (by omega)]
    have := hct.2.2 (by omega)
    omega

theorem putL_putL {cs a b : List AV} {i : Nat} (h : i + a.length ≤ cs.length) : putL (putL cs i a) (i + a.length) b = putL cs i (a ++ b) := by
  unfold putL
  have h1 : (cs.take i).length = i := by simp; omega
  have h2 : (cs.take i ++ a).length = i + a.length := by simp; omega
  rw [List.take_left' h2, ← List.drop_drop, List.drop_left' h2, List.drop_drop, List.length_append, List.append_assoc (cs.take i) a b, Nat.add_assoc]

theorem putL_nil {cs : List AV} {i : Nat} : putL cs i [] = cs := by
  unfold putL; simp

theorem putL_len {cs a : List AV} {i : Nat} (h : i + a.length ≤ cs.length) : (putL cs i a).length = cs.length := by
  unfold putL
  simp; omega

theorem putL_tag {cs : List AV} {a : List Int} {i : Nat} (h : tagLeL 0 cs = true) : tagLeL 0 (putL cs i (a.map (AV.int .u8))) = true := by
  refine tagLeL_of fun x hx => ?_
  unfold putL at hx
  have hm := tagLeL_mem h
  rcases List.mem_append.1 hx with hx | hx
  · rcases List.mem_append.1 hx with hx | hx
    · exact hm x (List.mem_of_mem_take hx)
    · obtain ⟨y, -, rfl⟩ := List.mem_map.1 hx; rfl
  · exact hm x (List.mem_of_mem_drop hx)

abbrev oB (cs : List AV) : Option AObj := some (.cells cs 5 false)

def Put65 (e : El) : Prop := e.Val → e.Bd → e.Tg → contE e ≤ 1048576 → ∀ (cells : List AV), ElA e cells → ∀ (len cap : Nat) (cs : List AV), len + (encE e).length ≤ cap → cap ≤ cs.length → tagLeL 0 cs = true →
  Xf 65 [.rsl 0 0 len (some cap), .agg cells] ⟨[oB cs], 0⟩ (.ret (.rsl 0 0 (len + (encE e).length) (some cap))) ⟨[oB (putL cs len ((encE e).map (AV.int .u8)))], 0⟩

theorem encL_take {l : List El} {i : Nat} (h : i < l.length) : encL (l.take (i + 1)) = encL (l.take i) ++ encE l[i] := by
  induction l generalizing i with
  | nil => simp at h
  | cons e es ih =>
    cases i with
    | zero => simp [encL]
    | succ i =>
      have := ih (i := i) (by simpa using h)
      simp only [List.take_succ_cons, encL, this, List.getElem_cons_succ, List.append_assoc]

theorem encL_take_le {l : List El} (i : Nat) : (encL (l.take i)).length ≤ (encL l).length := by
  induction l generalizing i with
  | nil => simp
  | cons e es ih =>
    cases i with
    | zero => simp [encL]
    | succ i =>
      have := ih i
      simp only [List.take_succ_cons, encL, List.length_append]; omega

theorem loop65 {subs : List El} (ih : ∀ e ∈ subs, Put65 e) (hv : El.ValL subs) (hb : El.BdL subs) (hT : El.TgL subs) (hc : ∀ e ∈ subs, contE e ≤ 1048576) {nls : Bool} {css : List AV} {cps : Option Nat} (hl : subs.length < 2 ^ 48) (hn : nls = true → subs = []) (hs : ElsA subs css)
    {len cap : Nat} {cs : List AV} (hle : len + (encL subs).length ≤ cap) (hcl : cap ≤ cs.length) (htag : tagLeL 0 cs = true) :
    ∀ (i : Nat) (kvs : List (Nat × AV)) (σ : St), (i ≤ subs.length ∧ kvs = [(0, .rsl 0 0 (len + (encL (subs.take i)).length) (some cap)), (33, .lsl nls 0 css subs.length cps), (34, .int .i64 (subs.length : Nat)), (35, .int .i64 i)] ∧ σ = ⟨[oB (putL cs len ((encL (subs.take i)).map (AV.int .u8)))], 0⟩) →
      ∃ ae kvs' σ', (ae = .exit 0 ∧ kvs' = [(0, .rsl 0 0 (len + (encL subs).length) (some cap))] ∧ σ' = ⟨[oB (putL cs len ((encL subs).map (AV.int .u8)))], 0⟩) ∧ Cd 0 (.loop (bodyL Tryd.f65 0)) (frOf 44 kvs) σ ae (frOf 44 kvs') σ' := by
  refine loop_by (tb := tb_r65) (f := 65) (c := bodyL Tryd.f65 0) (k := 0) (N := 44) (keepN := [0, 33, 34, 35]) (keepX := [0]) env_ok _ _ (fun i => subs.length - i) ?_
  rintro i kvs σ ⟨hi, rfl, rfl⟩
  have htl := encL_take_le (l := subs) i
  rw [r65]
  refine br_i (fun hlt => ?_) (fun hge => ?_)
  · have hlt : i < subs.length := by simpa using hlt
    obtain ⟨c5, k5, n5, bs5, ss5, nla, exa, cpa, nlb, csb, cpb, tl, hget, hdrop, hel⟩ := hs.cell hlt
    have hxe : subs[i] = El.mk c5 k5 n5 bs5 ss5 := by rw [List.getElem?_eq_getElem hlt] at hget; exact Option.some.inj hget
    have hmem : El.mk c5 k5 n5 bs5 ss5 ∈ subs := by rw [← hxe]; exact List.getElem_mem _
    have htk := encL_take hlt
    have htl2 := encL_take_le (l := subs) (i + 1)
    rw [htk, List.length_append] at htl2
    have hnl : nls = false := by
      cases nls
      · rfl
      · rw [hn rfl] at hlt; simp at hlt
    have hw : IntKind.i64.wrap ((i : Int) + 1) = ((i + 1 : Nat) : Int) := by rw [wrap_small (by omega) (by omega)]; simp
    have hrec := ih _ hmem (by rw [← hxe]; exact hv.at hlt) (by rw [← hxe]; exact hb.at hlt) (by rw [← hxe]; exact hT.at hlt) (hc _ hmem) _ hel (len + (encL (subs.take i)).length) cap (putL cs len ((encL (subs.take i)).map (AV.int .u8)))
      (by rw [← hxe]; omega) (by rw [putL_len (by simp; omega)]; exact hcl) (putL_tag htag)
    have hpp : putL (putL cs len ((encL (subs.take i)).map (AV.int .u8))) (len + (encL (subs.take i)).length) ((encE (.mk c5 k5 n5 bs5 ss5)).map (AV.int .u8)) = putL cs len ((encL (subs.take (i + 1))).map (AV.int .u8)) := by
      have := putL_putL (cs := cs) (a := (encL (subs.take i)).map (AV.int .u8)) (b := (encE (.mk c5 k5 n5 bs5 ss5)).map (AV.int .u8)) (i := len) (by simp; omega)
      rw [List.length_map] at this
      rw [this, htk, hxe, List.map_append]
    rw [hpp] at hrec
    have hlen : len + (encL (subs.take i)).length + (encE (.mk c5 k5 n5 bs5 ss5)).length = len + (encL (subs.take (i + 1))).length := by
      rw [htk, hxe, List.length_append]; omega
    rw [hlen] at hrec
    refine ⟨hnl, by omega, by omega, _, _, _, _, _, _, _, _, _, _, _, _, by rw [Int.toNat_natCast]; exact hdrop, putL_tag htag, _, _, _, hrec, putL_tag htag, putL_tag htag, ?_⟩
    exact ⟨i + 1, by omega, ⟨by omega, by rw [hw], rfl⟩, fun ae kvs σ h => h⟩
  · have hge : i = subs.length := by
      have : ¬ i < subs.length := by simpa using hge
      omega
    rw [hge, List.take_length]
    exact ⟨putL_tag htag, rfl, rfl, rfl⟩

theorem call65 : ∀ e : El, Put65 e := by
  refine El.ind fun c k n bs subs ih => ?_
  intro hv hb hT hct cells h len cap cs hle hcl htag
  have h0 := h
  have hT0 := hT
  simp only [El.Val] at hv
  simp only [El.Bd] at hb
  simp only [El.Tg] at hT
  obtain ⟨nl1, ex1, cp1, nl2, cs2, cp2, rfl, hc1, hl1, hn1, hc2, hl2, hn2, hs⟩ := h.out
  have hsub : ∀ e ∈ subs, SzOk e := by
    intro e he
    obtain ⟨i, hi, rfl⟩ := List.getElem_of_mem he
    exact szOk _ (hv.2.2.2.at hi) (hb.2.2.at hi)
  have hct0 : 0 ≤ contE (.mk c k n bs subs) ∧ ∀ e ∈ subs, contE e ≤ 1048576 := by
    obtain ⟨c1, c2, c3⟩ := contEs_ok subs hsub 0 (by omega) (by omega)
    unfold contE at hct ⊢
    cases k
    · have := hv.2.2.1 rfl
      subst this
      simp
    · simp only [Bool.true_eq_false, if_false] at hct ⊢
      exact ⟨c1, (c3 hct).2⟩
  have henc : encE (.mk c k n bs subs) = tagB c k n ++ lenB (contE (.mk c k n bs subs)) ++ bs ++ encL subs := by simp only [encE]; rfl
  rw [henc] at hle ⊢
  have h66 := (sum66_52 _ _ hT0 h0).1
  generalize contE (.mk c k n bs subs) = ct at *
  have a1 := tagB_pos hv.1
  have a3 := lenB_pos hct0.1 (by omega)
  simp only [List.length_append] at hle
  have e1 : List.take ((tagB c k n).length * 1) ((tagB c k n).map (AV.int .u8)) = (tagB c k n).map (AV.int .u8) := by rw [Nat.mul_one]; exact List.take_of_length_le (by simp)
  have e2 : List.take ((lenB ct).length * 1) ((lenB ct).map (AV.int .u8)) = (lenB ct).map (AV.int .u8) := by rw [Nat.mul_one]; exact List.take_of_length_le (by simp)
  have e3 : List.take (bs.length * 1) (bs.map (AV.int .u8) ++ ex1) = bs.map (AV.int .u8) := by rw [Nat.mul_one]; exact List.take_left' (List.length_map _)
  have p1 : putL (putL cs (0 + len * 1) ((tagB c k n).map (AV.int .u8))) (0 + (len + (tagB c k n).length) * 1) ((lenB ct).map (AV.int .u8)) = putL cs len ((tagB c k n ++ lenB ct).map (AV.int .u8)) := by
    have := putL_putL (cs := cs) (a := (tagB c k n).map (AV.int .u8)) (b := (lenB ct).map (AV.int .u8)) (i := len) (by simp; omega)
    rw [List.length_map] at this
    rw [Nat.mul_one, Nat.zero_add, Nat.mul_one, Nat.zero_add, this, List.map_append]
  have p2 : putL (putL cs len ((tagB c k n ++ lenB ct).map (AV.int .u8))) (0 + (len + (tagB c k n).length + (lenB ct).length) * 1) (bs.map (AV.int .u8)) = putL cs len ((tagB c k n ++ lenB ct ++ bs).map (AV.int .u8)) := by
    have := putL_putL (cs := cs) (a := (tagB c k n ++ lenB ct).map (AV.int .u8)) (b := bs.map (AV.int .u8)) (i := len) (by simp; omega)
    rw [List.length_map, List.length_append, ← Nat.add_assoc] at this
    rw [Nat.mul_one, Nat.zero_add, this, ← List.map_append]
  have hloop := loop65 (nls := nl2) (cps := cp2) ih hv.2.2.2 hb.2.2 hT.2 hct0.2 hl2 hn2 hs (len := len + (tagB c k n).length + (lenB ct).length + bs.length) (cap := cap) (cs := putL cs len ((tagB c k n ++ lenB ct ++ bs).map (AV.int .u8))) (by omega)
    (by rw [putL_len (by simp; omega)]; exact hcl) (putL_tag htag) 0 _ _ ⟨by omega, rfl, rfl⟩
  obtain ⟨ae, kvs', σ', ⟨rfl, rfl, rfl⟩, hcd⟩ := hloop
  have p3 : putL (putL cs len ((tagB c k n ++ lenB ct ++ bs).map (AV.int .u8))) (len + (tagB c k n).length + (lenB ct).length + bs.length) ((encL subs).map (AV.int .u8)) = putL cs len ((tagB c k n ++ lenB ct ++ bs ++ encL subs).map (AV.int .u8)) := by
    have := putL_putL (cs := cs) (a := (tagB c k n ++ lenB ct ++ bs).map (AV.int .u8)) (b := (encL subs).map (AV.int .u8)) (i := len) (by simp; omega)
    rw [List.length_map, List.length_append, List.length_append, ← Nat.add_assoc, ← Nat.add_assoc] at this
    rw [this, ← List.map_append]
  simp only [List.take_zero, encL, List.map_nil, putL_nil, List.length_nil, Nat.add_zero] at hcd
  rw [p3] at hcd
  have hlen : len + (tagB c k n ++ lenB ct ++ bs ++ encL subs).length = len + (tagB c k n).length + (lenB ct).length + bs.length + (encL subs).length := by
    simp only [List.length_append]; omega
  rw [hlen]
  have pl1 : (putL cs (0 + len * 1) ((tagB c k n).map (AV.int .u8))).length = cs.length := by rw [putL_len (by simp; omega)]
  have pl2 : (putL cs len ((tagB c k n ++ lenB ct).map (AV.int .u8))).length = cs.length := by rw [putL_len (by simp; omega)]
  refine xfer_vc (vc65 ..) ?_
  refine ⟨_, _, _, _, _, sum80 hT.1, _, h66, _, _, _, _, _, sum81 ct, by simp, by omega, by omega, by omega, by simp, by omega, by omega, ?_, by simp, ?_⟩
  · rw [e1, pl1]; omega
  rw [e1, e2, e3, p1, p2, pl2]
  refine br_i (fun hz => ⟨putL_tag htag, ?_⟩) (fun hz => br_t ?_ ⟨by omega, putL_tag htag, ?_⟩)
  · have hz : bs = [] := List.length_eq_zero_iff.1 (Nat.eq_of_beq_eq_true hz)
    subst hz
    simp only [List.append_nil, List.length_nil, Nat.add_zero] at hcd ⊢
    exact ⟨_, _, _, hcd, putL_tag htag, rfl, rfl⟩
  · exact Nat.ble_eq_true_of_le (by omega)
  · exact ⟨_, _, _, hcd, putL_tag htag, rfl, rfl⟩


/-! Put, and what takes its octets' number -/
def putErr (e : El) : Int := if checkE e ≠ 0 then checkE e else if sizeE e > 1048576 then 3 else 0
def putB (e : El) : List Int := if checkE e ≠ 0 then [] else if sizeE e > 1048576 then [] else encE e

theorem madeB_tag (n : Nat) : tagLeL 0 (madeRow [.int .u8 0] n) = true := by rw [madeRow_zero]; exact tagLeL_map _

theorem putL_all {cs a : List AV} (h : a.length = cs.length) : putL cs 0 a = a := by
  unfold putL
  simp [h]

theorem checkE_val {e : El} (h : checkE e = 0) : e.Val := chk_val e 1 0 0 h

theorem contE_le {e : El} (h : SzOk e) (h2 : ¬ sizeE e > 1048576) : contE e ≤ 1048576 := by
  rcases Int.lt_or_le 1048576 (contE e) with hgt | hle2
  · have : sizeE e = contE e := by rw [sizeE_eq]; unfold szOf; rw [if_pos hgt]
    omega
  · exact hle2

theorem sum50 {e : El} {cells : List AV} (hT : e.Tg) (hb : e.Bd) (h : ElA e cells) : ∃ a, SI .u8 (putB e) a ∧ Sm 50 [.agg cells] (.tup [a, .int .i64 (putErr e)]) := by
  have h0 := h
  obtain ⟨_, _, _, _, _, _, _, _, _, _, _, rfl⟩ := h.cells
  refine sum_fn (fun a => .tup [a, .int .i64 (putErr e)]) _ (vc50 ..) ?_
  unfold putErr putB
  refine ⟨_, sum37 h0, br_i (fun h1 => ?_) (fun h1 => ⟨_, (sum66_52 _ _ hT h0).2, br_i (fun h2 => ?_) (fun h2 => ?_)⟩)⟩
  · have h1 : checkE e ≠ 0 := by simpa using h1
    rw [if_pos h1, if_pos h1]
    exact ⟨_, rfl, true, [], some 0, rfl, capOk_some, by simp, fun _ => rfl⟩
  · have h1 : ¬ checkE e ≠ 0 := by simpa using h1
    have h2 := of_decide_eq_true h2
    rw [if_neg h1, if_neg h1, if_pos h2, if_pos h2]
    exact ⟨_, rfl, true, [], some 0, rfl, capOk_some, by simp, fun _ => rfl⟩
  · have h1 : ¬ checkE e ≠ 0 := by simpa using h1
    have h2 := of_decide_eq_false h2
    rw [if_neg h1, if_neg h1, if_neg h2, if_neg h2]
    have hv := checkE_val (Decidable.not_not.1 h1)
    have hz := szOk e hv hb
    have hct := contE_le hz h2
    have hsz := hz.2.2.2 hct
    have h00 := hz.1
    have hml : (madeRow [.int .u8 0] (Int.toNat (sizeE e) * 1)).length = (encE e).length := by rw [madeRow_zero]; simp [hsz]
    have h65 := call65 e hv hb hT hct _ h0 0 (Int.toNat (sizeE e)) (madeRow [.int .u8 0] (Int.toNat (sizeE e) * 1)) (by omega) (by rw [hml]; omega) (madeB_tag _)
    rw [putL_all (by rw [hml, List.length_map])] at h65
    refine ⟨by omega, h00, by omega, by omega, madeB_tag _, _, _, _, h65, tagLeL_map _, tagLeL_map _, _, rfl, false, [], some (Int.toNat (sizeE e)), by simp, ?_, by omega, by simp⟩
    rintro c hc
    cases hc
    omega

theorem putB_len {e : El} (hb : e.Bd) : ((putB e).length : Int) = SizeE e := by
  unfold putB SizeE
  by_cases h1 : checkE e ≠ 0
  · rw [if_pos h1, if_pos h1]; rfl
  rw [if_neg h1, if_neg h1]
  by_cases h2 : sizeE e > 1048576
  · rw [if_pos h2, if_pos h2]; rfl
  rw [if_neg h2, if_neg h2]
  have hz := szOk e (checkE_val (Decidable.not_not.1 h1)) hb
  exact (hz.2.2.2 (contE_le hz h2)).symm

/-- fields.size, from a number on. -/
def szs : Int → List El → Int
  | a, [] => a
  | a, e :: es => szs (IntKind.i64.wrap (a + SizeE e)) es

theorem loop51 {subs : List El} (hb : El.BdL subs) (hT : El.TgL subs) {nls : Bool} {css : List AV} {cps : Option Nat} (hl : subs.length < 2 ^ 48) (hn : nls = true → subs = []) (hs : ElsA subs css) :
    ∀ (x : Nat × Int) (kvs : List (Nat × AV)) (σ : St), (x.1 ≤ subs.length ∧ kvs = [(2, .int .i64 x.2), (7, .lsl nls 0 css subs.length cps), (8, .int .i64 (subs.length : Nat)), (9, .int .i64 x.1)] ∧ σ = ⟨[], 0⟩) →
      ∃ ae kvs' σ', (ae = .exit 0 ∧ kvs' = [(2, .int .i64 (szs x.2 (subs.drop x.1)))] ∧ σ' = ⟨[], 0⟩) ∧ Cd 0 (.loop (bodyL Tryd.f51 0)) (frOf 24 kvs) σ ae (frOf 24 kvs') σ' := by
  refine loop_by (tb := tb_r51) (f := 51) (c := bodyL Tryd.f51 0) (k := 0) (N := 24) (keepN := [2, 7, 8, 9]) (keepX := [2]) env_ok _ _ (fun x => subs.length - x.1) ?_
  rintro ⟨i, a⟩ kvs σ ⟨hi, rfl, rfl⟩
  simp only at hi ⊢
  rw [r51]
  refine br_i (fun hlt => ?_) (fun hge => ?_)
  · have hlt : i < subs.length := by simpa using hlt
    obtain ⟨c5, k5, n5, bs5, ss5, nla, exa, cpa, nlb, csb, cpb, tl, hget, hdrop, hel⟩ := hs.cell hlt
    have hxe : subs[i] = El.mk c5 k5 n5 bs5 ss5 := by rw [List.getElem?_eq_getElem hlt] at hget; exact Option.some.inj hget
    have hsd : subs.drop i = El.mk c5 k5 n5 bs5 ss5 :: subs.drop (i + 1) := by rw [← hxe]; exact List.drop_eq_getElem_cons hlt
    have hbi : (El.mk c5 k5 n5 bs5 ss5).Bd := by rw [← hxe]; exact hb.at hlt
    obtain ⟨a50, ha, hrec⟩ := sum50 (by rw [← hxe]; exact hT.at hlt) hbi hel
    have hlen := putB_len hbi
    obtain ⟨_, _, _, rfl, -⟩ := ha
    have hnl : nls = false := by
      cases nls
      · rfl
      · rw [hn rfl] at hlt; simp at hlt
    have hw : IntKind.i64.wrap ((i : Int) + 1) = ((i + 1 : Nat) : Int) := by rw [wrap_small (by omega) (by omega)]; simp
    refine ⟨hnl, by omega, by omega, _, _, _, _, _, _, _, _, _, _, _, _, by rw [Int.toNat_natCast]; exact hdrop, _, _, _, _, _, hrec, ?_⟩
    rw [hlen]
    refine ⟨(i + 1, IntKind.i64.wrap (a + SizeE (.mk c5 k5 n5 bs5 ss5))), by simp only; omega, ⟨by simp only; omega, by rw [hw], rfl⟩, ?_⟩
    rintro ae kvs σ ⟨h1, h2, h3⟩
    refine ⟨h1, ?_, h3⟩
    rw [h2, hsd]; simp only [szs]
  · have hge : i = subs.length := by
      have : ¬ i < subs.length := by simpa using hge
      omega
    rw [hge, List.drop_length]
    refine ⟨rfl, ?_, rfl⟩
    simp only [szs]

theorem sum51 {subs : List El} (hb : El.BdL subs) (hT : El.TgL subs) {nls : Bool} {css : List AV} {cps : Option Nat} (hl : subs.length < 2 ^ 48) (hn : nls = true → subs = []) (hs : ElsA subs css) : Sm 51 [.lsl nls 0 css subs.length cps] (.int .i64 (szs 0 subs)) := by
  obtain ⟨ae, kvs', σ', ⟨rfl, rfl, rfl⟩, hcd⟩ := loop51 (nls := nls) (cps := cps) hb hT hl hn hs (0, 0) _ _ ⟨by simp, rfl, rfl⟩
  exact sum_vc (vc51 ..) ⟨_, hcd, rfl⟩

/-- Offset, from a number on: the offset, the error. -/
def offL : Int → El → List Int → Int × Int
  | a, _, [] => (a, 0)
  | a, e, i :: r => match stepM e i with
    | none => (0, 19)
    | some x => offL (IntKind.i64.wrap (a + IntKind.i64.wrap (szs 0 [e] - szs 0 (e.subs.drop i.toNat)))) x r
def offM (e : El) (path : List Int) : Int × Int := if putErr e ≠ 0 then (0, putErr e) else offL 0 e path

theorem stepM_tg {e x : El} {i : Int} (h : e.Tg) (hx : stepM e i = some x) : x.Tg := by
  unfold stepM at hx
  split at hx
  · cases hx
  · obtain ⟨c, k, n, bs, subs⟩ := e
    simp only [El.Tg] at h
    obtain ⟨hi, rfl⟩ := List.getElem?_eq_some_iff.1 hx
    exact h.2.at hi

theorem El.BdL.drop {l : List El} (h : El.BdL l) : ∀ i, El.BdL (l.drop i) := by
  induction l with
  | nil => intro i; simp [El.BdL]
  | cons e es ih =>
    intro i
    simp only [El.BdL] at h
    cases i with
    | zero => simpa [El.BdL] using h
    | succ i => exact ih h.2 i
theorem El.TgL.drop {l : List El} (h : El.TgL l) : ∀ i, El.TgL (l.drop i) := by
  induction l with
  | nil => intro i; simp [El.TgL]
  | cons e es ih =>
    intro i
    simp only [El.TgL] at h
    cases i with
    | zero => simpa [El.TgL] using h
    | succ i => exact ih h.2 i

theorem loop32 {path : List Int} {nls : Bool} {ex : List AV} {cps : Option Nat} (hn : nls = true → path = []) (hl : path.length < 2 ^ 48) (e0 : El) :
    ∀ (x : Nat × Int × El × List AV) (kvs : List (Nat × AV)) (σ : St), (x.1 ≤ path.length ∧ offL x.2.1 x.2.2.1 (path.drop x.1) = offL 0 e0 path ∧ ElA x.2.2.1 x.2.2.2 ∧ x.2.2.1.Bd ∧ x.2.2.1.Tg ∧
        kvs = [(2, .ref 0 0), (8, .int .i64 x.2.1), (21, .lsl nls 0 (path.map (AV.int .i64) ++ ex) path.length cps), (22, .int .i64 (path.length : Nat)), (23, .int .i64 x.1)] ∧
        σ = ⟨[some (.cells x.2.2.2 32 false)], 0⟩) →
      ∃ ae kvs' σ', ((ae = .exit 0 ∧ kvs' = [(8, .int .i64 (offL 0 e0 path).1), (4, .any), (5, .any)] ∧ (offL 0 e0 path).2 = 0 ∧ σ' = ⟨[], 0⟩) ∨
          (ae = .ret ∧ ∃ a, kvs' = [(8, .int .i64 a), (4, .int .i64 0), (5, .int .i64 19)] ∧ offL 0 e0 path = (0, 19) ∧ σ' = ⟨[], 0⟩)) ∧
        Cd 0 (.loop (bodyL Tryd.f32 0)) (frOf 49 kvs) σ ae (frOf 49 kvs') σ' := by
  refine loop_by (tb := tb_r32) (f := 32) (c := bodyL Tryd.f32 0) (k := 0) (N := 49) (keepN := [2, 8, 21, 22, 23]) (keepX := [8, 4, 5]) env_ok _ _ (fun x => path.length - x.1) ?_
  rintro ⟨i, a, e, cells⟩ kvs σ ⟨hi, ha, he, hbd, hTg, rfl, rfl⟩
  simp only at hi ha he hbd hTg ⊢
  have he0 := he
  obtain ⟨c, k, n, bs, subs⟩ := e
  obtain ⟨nl1, ex1, cp1, nl2, cs2, cp2, rfl, hc1, hl1, hn1, hc2, hl2, hn2, hs⟩ := he.out
  rw [r32]
  refine br_i (fun hlt => ?_) (fun hge => ?_)
  · have hlt : i < path.length := by have := of_decide_eq_true hlt; omega
    have hnl : nls = false := by
      cases nls
      · rfl
      · rw [hn rfl] at hlt; simp at hlt
    have hw : IntKind.i64.wrap ((i : Int) + 1) = ((i + 1 : Nat) : Int) := by rw [wrap_small (by omega) (by omega)]; simp
    obtain ⟨c', hc', hsm⟩ := sum48 he0 path[i]
    have hc0 := hc'
    obtain ⟨_, _, _, _, _, _, _, _, _, _, _, rfl⟩ := hc'.cells
    rw [List.drop_eq_getElem_cons hlt] at ha
    simp only [offL] at ha
    refine ⟨hnl, by omega, by omega, _, _, by rw [Int.toNat_natCast, Nat.mul_one]; exact SI.cells_at hlt, _, _, _, _, _, _, _, _, _, _, _, _, hsm, br_i (fun hz => ?_) (fun hz => ?_)⟩
    · have hz : stepM (.mk c k n bs subs) path[i] = none := by simpa using hz
      rw [hz] at ha
      exact .inr ⟨rfl, a, rfl, ha.symm, rfl⟩
    · obtain ⟨x, hx⟩ : ∃ x, stepM (.mk c k n bs subs) path[i] = some x := by
        have : (stepM (.mk c k n bs subs) path[i]).isSome = true := by simpa using hz
        exact Option.isSome_iff_exists.1 this
      rw [hx] at ha hc0
      have hxs := hx
      unfold stepM at hxs
      split at hxs
      · cases hxs
      · rename_i hneg
        obtain ⟨hil, -⟩ := List.getElem?_eq_some_iff.1 hxs
        have hil : path[i].toNat < subs.length := hil
        have h51a := sum51 (subs := [.mk c k n bs subs]) (nls := false) (css := [.int .u8 c, .bool k, .int .u32 n, .lsl nl1 0 (bs.map (AV.int .u8) ++ ex1) bs.length cp1, .lsl nl2 0 cs2 subs.length cp2]) (cps := some 1) (by simp only [El.BdL]; exact ⟨hbd, trivial⟩) (by simp only [El.TgL]; exact ⟨hTg, trivial⟩) (by simp) (by simp)
          (by simp only [ElsA]; exact ⟨_, [], by simp, he0, trivial⟩)
        have hbd0 := hbd
        have hTg0 := hTg
        simp only [El.Bd] at hbd
        simp only [El.Tg] at hTg
        have h51b := sum51 (subs := subs.drop path[i].toNat) (nls := nl2) (css := if subs.length = path[i].toNat then [] else cs2.drop (path[i].toNat * 5)) (cps := cp2.map (fun x => x - path[i].toNat)) (hbd.2.2.drop _) (hTg.2.drop _) (by simp; omega)
          (fun h => by rw [hn2 h]; simp) (by rw [if_neg (by omega)]; exact hs.drop _)
        rw [List.length_drop] at h51b
        refine ⟨_, h51a, by omega, by omega, _, h51b, ?_⟩
        refine ⟨(i + 1, _, x, _), by simp only; omega, ⟨by simp only; omega, ha, hc0, stepM_bd hbd0 hx, stepM_tg hTg0 hx, by rw [hw]; rfl, rfl⟩, fun ae kvs σ h => h⟩
  · have hge : i = path.length := by have := of_decide_eq_false hge; omega
    subst hge
    rw [List.drop_length] at ha
    simp only [offL] at ha
    exact .inl ⟨rfl, by rw [← ha], by rw [← ha], rfl⟩

theorem sum32 {e : El} {cells : List AV} (h : ElA e cells) (hb : e.Bd) (hT : e.Tg) {path : List Int} {a : AV} (hp : SI .i64 path a) : Sm 32 [.agg cells, a] (.tup [.int .i64 (offM e path).1, .int .i64 (offM e path).2]) := by
  obtain ⟨nl, ex, cp, rfl, hc, hl, hn⟩ := hp
  have h0 := h
  obtain ⟨_, _, _, _, _, _, _, _, _, _, _, rfl⟩ := h.cells
  obtain ⟨a50, ha, h50⟩ := sum50 hT hb h0
  obtain ⟨_, _, _, rfl, -⟩ := ha
  refine sum_vc (vc32 ..) ?_
  unfold offM
  refine ⟨_, _, _, _, _, h50, br_i (fun h1 => ?_) (fun h1 => ?_)⟩
  · have h1 : putErr e ≠ 0 := by simpa using h1
    rw [if_pos h1]
  · have h1 : ¬ putErr e ≠ 0 := by simpa using h1
    rw [if_neg h1]
    obtain ⟨ae, kvs', σ', hq, hcd⟩ := loop32 (ex := ex) (cps := cp) hn hl e (0, 0, e, _) _ _ ⟨by simp, rfl, h0, hb, hT, rfl, rfl⟩
    rcases hq with ⟨rfl, rfl, hx, rfl⟩ | ⟨rfl, a, rfl, hx, rfl⟩
    · exact ⟨_, .inl ⟨hcd, by rw [hx]⟩⟩
    · exact ⟨_, .inr ⟨hcd, by rw [hx]⟩⟩

/-- Report. -/
def repM (e : El) (path : List Int) (err : Int) : Int × Int := if err = 0 then (0, 0) else ((offM e path).1, err)

theorem sum30 {e : El} {cells : List AV} (h : ElA e cells) (hb : e.Bd) (hT : e.Tg) {path : List Int} {err : Int} {ex : Bool} {a : AV} (hf : FA path err ex a) : Sm 30 [.agg cells, a] (.tup [.int .i64 (repM e path err).1, .int .i64 (repM e path err).2]) := by
  have h0 := h
  obtain ⟨_, _, _, _, _, _, _, _, _, _, _, rfl⟩ := h.cells
  obtain ⟨nl, xs, cp, rfl, h1, -, h3, h4⟩ := hf
  refine sum_vc (vc30 ..) ?_
  unfold repM
  refine br_i (fun h5 => ?_) (fun h5 => ?_)
  · have h5 : err = 0 := by simpa using h5
    rw [if_pos h5]
  · have h5 : err ≠ 0 := by simpa using h5
    rw [if_neg h5]
    exact ⟨_, _, sum32 h0 hb hT ⟨nl, xs, cp, rfl, h1, by omega, h3⟩, rfl⟩

end Go.Vid
