/-
Same: an element is the same as itself.
-/
import Derived.Test.YtnjlocjikfbgdaaDoorXK
set_option linter.all false
namespace Go.Vid
open Go.Proofs
set_option maxRecDepth 100000
section
open AExit AOut AV IntKind
theorem vc25 (ac an bc bn : Int) (ak nla1 nla2 bk nlb1 nlb2 : Bool) (lena1 lena2 lenb1 lenb2 : Nat) (csa1 csa2 csb1 csb2 : List AV) (cpa1 cpa2 cpb1 cpb2 : Option Nat) (K : AOut → Prop) : (dataT Tryd.prog env [(25, { ops := [(1, [(4, Kd.w), (5, Kd.b), (8, Kd.w), (11, Kd.w), (14, Kd.b)])], loops := [(0, LoopS.inv [2, 3, 4, 5] fun vs σ => Sh.or (Sh.one (exit 0, [(4, int i64 0)], ⟨[], 0⟩)) (Sh.one (AExit.ret, [(4, int i64 0)], ⟨[], 0⟩)))] })] 25 [agg [int u8 ac, AV.bool ak, int u32 an, lsl nla1 0 csa1 lena1 cpa1, lsl nla2 0 csa2 lena2 cpa2], agg [int u8 bc, AV.bool bk, int u32 bn, lsl nlb1 0 csb1 lenb1 cpb1, lsl nlb2 0 csb2 lenb2 cpb2]] K) =
    (br (!(ac == bc && (ak == bk && an == bn))) (K (AOut.ret (int i64 0))) (lena1 * 1 ≤ List.length csa1 ∧ ∃ cs1, bytesOfCells (List.take lena1 csa1) = some cs1 ∧ lenb1 * 1 ≤ List.length csb1 ∧ ∃ cs2, bytesOfCells (List.take lenb1 csb1) = some cs2 ∧ br (!ByteArray.toList { data := { toList := cs1 } } == ByteArray.toList { data := { toList := cs2 } }) (K (AOut.ret (int i64 0))) (br ((↑lena2 : Int) != (↑lenb2 : Int)) (K (AOut.ret (int i64 0))) (Cd 0 (Code.loop (bodyL Tryd.f25 0)) (frOf 48 [(2, ref 0 0), (3, ref 1 0), (4, int i64 0), (5, int i64 0)]) ⟨[some (AObj.cells [int u8 ac, AV.bool ak, int u32 an, lsl nla1 0 csa1 lena1 cpa1, lsl nla2 0 csa2 lena2 cpa2] 32 false), some (AObj.cells [int u8 bc, AV.bool bk, int u32 bn, lsl nlb1 0 csb1 lenb1 cpb1, lsl nlb2 0 csb2 lenb2 cpb2] 32 false)], 0⟩ (exit 0) (frOf 48 [(4, int i64 0)]) ⟨[], 0⟩ ∧ K (AOut.ret (int i64 1)) ∨ Cd 0 (Code.loop (bodyL Tryd.f25 0)) (frOf 48 [(2, ref 0 0), (3, ref 1 0), (4, int i64 0), (5, int i64 0)]) ⟨[some (AObj.cells [int u8 ac, AV.bool ak, int u32 an, lsl nla1 0 csa1 lena1 cpa1, lsl nla2 0 csa2 lena2 cpa2] 32 false), some (AObj.cells [int u8 bc, AV.bool bk, int u32 bn, lsl nlb1 0 csb1 lenb1 cpb1, lsl nlb2 0 csb2 lenb2 cpb2] 32 false)], 0⟩ AExit.ret (frOf 48 [(4, int i64 0)]) ⟨[], 0⟩ ∧ K (AOut.ret (int i64 0)))))) := by kernel_rfl
abbrev tb_r25 : List (FuncId × Sc) := [(25, { ops := [(6, [(3, Kd.w), (8, Kd.w)])] })]
theorem r25 (i ac an bc bn : Int) (ak nla1 nla2 bk nlb1 nlb2 : Bool) (lena1 lena2 lenb1 lenb2 : Nat) (csa1 csa2 csb1 csb2 : List AV) (cpa1 cpa2 cpb1 cpb2 : Option Nat) (K : AExit → List (Nat × AV) → St → Prop) : (roundT Tryd.prog env tb_r25 25 (bodyL Tryd.f25 0) 0 48 [2, 3, 4, 5] [4] [(2, ref 0 0), (3, ref 1 0), (4, int i64 0), (5, int i64 i)] ⟨[some (AObj.cells [int u8 ac, AV.bool ak, int u32 an, lsl nla1 0 csa1 lena1 cpa1, lsl nla2 0 csa2 lena2 cpa2] 32 false), some (AObj.cells [int u8 bc, AV.bool bk, int u32 bn, lsl nlb1 0 csb1 lenb1 cpb1, lsl nlb2 0 csb2 lenb2 cpb2] 32 false)], 0⟩ K) =
    (br (decide (i < (↑lena2 : Int))) (nla2 = false ∧ (0 : Int) ≤ i ∧ i < (↑lena2 : Int) ∧ ∃ z1 b2 z3 b4 cs5 n6 cp7 b8 cs9 n10 cp11 cs12, List.drop (Int.toNat i * 5) csa2 = int u8 z1 :: AV.bool b2 :: int u32 z3 :: lsl b4 0 cs5 n6 cp7 :: lsl b8 0 cs9 n10 cp11 :: cs12 ∧ nlb2 = false ∧ (0 : Int) ≤ i ∧ i < (↑lenb2 : Int) ∧ ∃ z13 b14 z15 b16 cs17 n18 cp19 b20 cs21 n22 cp23 cs24, List.drop (Int.toNat i * 5) csb2 = int u8 z13 :: AV.bool b14 :: int u32 z15 :: lsl b16 0 cs17 n18 cp19 :: lsl b20 0 cs21 n22 cp23 :: cs24 ∧ ∃ z25, Sm 25 [agg [int u8 z1, AV.bool b2, int u32 z3, lsl b4 0 cs5 n6 cp7, lsl b8 0 cs9 n10 cp11], agg [int u8 z13, AV.bool b14, int u32 z15, lsl b16 0 cs17 n18 cp19, lsl b20 0 cs21 n22 cp23]] ((int i64 z25)) ∧ br (z25 == (0 : Int)) (K AExit.ret [(4, int i64 0)] ⟨[], 0⟩) (K normal [(2, ref 0 0), (3, ref 1 0), (4, int i64 0), (5, int i64 (wrap i64 (i + (1 : Int))))] ⟨[some (AObj.cells [int u8 ac, AV.bool ak, int u32 an, lsl nla1 0 csa1 lena1 cpa1, lsl nla2 0 csa2 lena2 cpa2] 32 false), some (AObj.cells [int u8 bc, AV.bool bk, int u32 bn, lsl nlb1 0 csb1 lenb1 cpb1, lsl nlb2 0 csb2 lenb2 cpb2] 32 false)], 0⟩)) (K (exit 0) [(4, int i64 0)] ⟨[], 0⟩)) := by kernel_rfl
end

/-! Same -/
theorem bytesOf_map : ∀ l : List Int, bytesOfCells (l.map (AV.int .u8)) = some (l.map fun n => UInt8.ofNat n.toNat)
  | [] => rfl
  | a :: l => by simp [bytesOfCells, bytesOf_map l]

def Sme (e : El) : Prop := ∀ {c1 c2 : List AV}, ElA e c1 → ElA e c2 → Sm 25 [.agg c1, .agg c2] (.int .i64 1)

theorem loop25 {subs : List El} (ih : ∀ e ∈ subs, Sme e) (hsl : subs.length < 2 ^ 48) {nla2 nlb2 : Bool} {csa2 csb2 : List AV} {cpa2 cpb2 : Option Nat} (hna : nla2 = true → subs = []) (hnb : nlb2 = true → subs = []) (ha : ElsA subs csa2) (hb : ElsA subs csb2)
    (ac an bc bn : Int) (ak nla1 bk nlb1 : Bool) (lena1 lenb1 : Nat) (csa1 csb1 : List AV) (cpa1 cpb1 : Option Nat) :
    ∀ (x : Nat) (kvs : List (Nat × AV)) (σ : St), (x ≤ subs.length ∧ kvs = [(2, .ref 0 0), (3, .ref 1 0), (4, .int .i64 0), (5, .int .i64 x)] ∧
        σ = ⟨[some (.cells [.int .u8 ac, .bool ak, .int .u32 an, .lsl nla1 0 csa1 lena1 cpa1, .lsl nla2 0 csa2 subs.length cpa2] 32 false), some (.cells [.int .u8 bc, .bool bk, .int .u32 bn, .lsl nlb1 0 csb1 lenb1 cpb1, .lsl nlb2 0 csb2 subs.length cpb2] 32 false)], 0⟩) →
      ∃ ae kvs' σ', (ae = .exit 0 ∧ kvs' = [(4, .int .i64 0)] ∧ σ' = ⟨[], 0⟩) ∧ Cd 0 (.loop (bodyL Tryd.f25 0)) (frOf 48 kvs) σ ae (frOf 48 kvs') σ' := by
  refine loop_by (tb := tb_r25) (f := 25) (c := bodyL Tryd.f25 0) (k := 0) (N := 48) (keepN := [2, 3, 4, 5]) (keepX := [4]) env_ok _ _ (fun x => subs.length - x) ?_
  rintro i kvs σ ⟨hi, rfl, rfl⟩
  rw [r25]
  refine br_i (fun hlt => ?_) (fun hge => ⟨rfl, rfl, rfl⟩)
  have hlt : i < subs.length := by have := of_decide_eq_true hlt; omega
  have hla : nla2 = false := by
    cases nla2
    · rfl
    · rw [hna rfl] at hlt; simp at hlt
  have hlb : nlb2 = false := by
    cases nlb2
    · rfl
    · rw [hnb rfl] at hlt; simp at hlt
  have hw : IntKind.i64.wrap ((i : Int) + 1) = ((i + 1 : Nat) : Int) := by rw [wrap_small (by omega) (by omega)]; simp
  obtain ⟨c5, k5, n5, bs5, ss5, nl1, ex1, cp1, nl2, cs2, cp2, tl, hget, hdrop, hel⟩ := ha.cell hlt
  obtain ⟨c6, k6, n6, bs6, ss6, nl3, ex3, cp3, nl4, cs4, cp4, tl2, hget2, hdrop2, hel2⟩ := hb.cell hlt
  rw [hget] at hget2
  cases hget2
  have hmem : El.mk c5 k5 n5 bs5 ss5 ∈ subs := List.mem_of_getElem? hget
  have hsm := ih _ hmem hel hel2
  refine ⟨hla, by omega, by omega, _, _, _, _, _, _, _, _, _, _, _, _, by rw [Int.toNat_natCast]; exact hdrop, hlb, by omega, by omega, _, _, _, _, _, _, _, _, _, _, _, _, by rw [Int.toNat_natCast]; exact hdrop2, _, hsm, br_f (by decide) ?_⟩
  rw [hw]
  exact ⟨i + 1, by omega, ⟨by omega, rfl, rfl⟩, fun _ _ _ h => h⟩

/-- AN ELEMENT IS THE SAME AS ITSELF, wherever it lies. -/
theorem sum25 : ∀ e : El, Sme e := by
  refine El.ind fun c k n bs subs ih => ?_
  intro c1 c2 h1 h2
  obtain ⟨nl1, ex1, cp1, nl2, cs2, cp2, rfl, hc1, hl1, hn1, hc2, hl2, hn2, hs⟩ := h1.out
  obtain ⟨nl3, ex3, cp3, nl4, cs4, cp4, rfl, hc3, hl3, hn3, hc4, hl4, hn4, hs4⟩ := h2.out
  refine sum_vc (vc25 ..) ?_
  refine br_f (by simp) ⟨by simp, _, by rw [List.take_left' (by simp)]; exact bytesOf_map bs, by simp, _, by rw [List.take_left' (by simp)]; exact bytesOf_map bs, br_f (by simp) (br_f (by simp) ?_)⟩
  obtain ⟨ae, kvs', σ', ⟨rfl, rfl, rfl⟩, hcd⟩ := loop25 ih hl2 (cpa2 := cp2) (cpb2 := cp4) hn2 hn4 hs hs4 c n c n k nl1 k nl3 bs.length bs.length (bs.map (AV.int .u8) ++ ex1) (bs.map (AV.int .u8) ++ ex3) cp1 cp3 0 _ _ ⟨by omega, rfl, rfl⟩
  exact .inl ⟨hcd, rfl⟩

end Go.Vid
