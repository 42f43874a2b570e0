/-
The program, run on a closed input: skeletons.Of, called by lives for the third time.
-/
import Derived.Test.YtnjlocjikfbgdaaDoorKD
namespace Go.Vid
open Go.Proofs
set_option maxRecDepth 100000
set_option linter.all false
section
open AExit AOut AV IntKind
abbrev tb_run3 : List (FuncId × Sc) := [(14, { shs := [(12, Sh.one (AOut.ret (tup [lsl false 0 [int i64 2, int i64 15, int i64 0, int i64 0, int i64 4, int i64 3, int i64 7, int i64 2, int i64 9, int i64 2, int i64 11, int i64 2, int i64 13, int i64 2, int i64 15, int i64 2, int i64 0, int i64 0, int i64 0, int i64 0, int i64 0, int i64 0, int i64 17, int i64 2, int i64 19, int i64 3] 13 (some 13), int i64 0, int i64 0]), ⟨[], 0⟩)), (35, Sh.one (AOut.ret (tup [agg [int u8 0, AV.bool true, int u32 16, nilS, lsl false 0 [int u8 0, AV.bool true, int u32 16, nilS, lsl false 0 [int u8 0, AV.bool false, int u32 2, lsl false 0 [int u8 1] 1 none, nilS, int u8 0, AV.bool true, int u32 16, nilS, nilS, int u8 0, AV.bool true, int u32 16, nilS, nilS, int u8 0, AV.bool true, int u32 16, nilS, nilS, int u8 0, AV.bool true, int u32 16, nilS, nilS, int u8 0, AV.bool true, int u32 16, nilS, nilS] 6 none, int u8 0, AV.bool true, int u32 16, nilS, nilS, int u8 0, AV.bool false, int u32 3, lsl false 0 [int u8 0] 1 none, nilS] 3 none], int i64 0, int i64 0]), ⟨[], 0⟩))] }), (20, { ops := [(13, [(0, Kd.fz), (1, Kd.fz), (2, Kd.fz)]), (18, [(3, Kd.fz)])], loops := [(0, LoopS.unroll 12)], inl := true }), (85, { loops := [(0, LoopS.unroll 12)], inl := true }), (43, { loops := [(1, LoopS.unroll 12)], inl := true }), (42, { loops := [(0, LoopS.unroll 5)], inl := true }), (45, { loops := [(3, LoopS.unroll 3)], inl := true }), (60, { loops := [(1, LoopS.unroll 9)], inl := true }), (22, { loops := [(0, LoopS.unroll 5)], inl := true }), (28, { inl := true }), (37, { inl := true }), (58, { inl := true }), (75, { inl := true }), (76, { inl := true }), (77, { inl := true }), (79, { inl := true }), (61, { inl := true }), (62, { inl := true }), (47, { inl := true }), (44, { inl := true }), (46, { inl := true }), (78, { inl := true }), (21, { inl := true }), (27, { inl := true })]
end
abbrev st_run3 : St := ⟨[some (.cells [.int .u8 0, .bool true, .int .u32 16, nilS, .rsl 1 0 7 none, .int .u8 0, .bool true, .int .u32 16, nilS, nilS, .int .u8 0, .bool false, .int .u32 3, .lsl false 0 [.int .u8 0] 1 none, nilS] 32 false), some (.cells [.int .u8 2, .bool true, .int .u32 0, nilS, .rsl 2 0 1 (some 1), .int .u8 0, .bool false, .int .u32 2, .lsl false 0 [.int .u8 1] 1 none, nilS, .int .u8 0, .bool true, .int .u32 16, nilS, nilS, .int .u8 0, .bool true, .int .u32 16, nilS, nilS, .int .u8 0, .bool true, .int .u32 16, nilS, nilS, .int .u8 0, .bool true, .int .u32 16, nilS, nilS, .int .u8 0, .bool true, .int .u32 16, nilS, nilS] 32 true), some (.cells [.int .u8 0, .bool false, .int .u32 2, .rsl 3 0 1 (some 1), nilS] 32 false), some (.cells [.int .u8 0] 5 false)], 0⟩
abbrev out_run3 : AOut := .ret (.tup [.agg [.int .i64 0, nilS, nilS, nilS, nilS, nilS, nilS, nilS, nilS, nilS, nilS, nilS, nilS, nilS], .agg [.lsl false 0 [.int .i64 0, .int .i64 0, .int .i64 0] 3 (some 3), .int .i64 11]])
theorem vc_run3 : fnT Tryd.prog env2 tb_run3 16 20 [.agg [.int .u8 0, .bool true, .int .u32 16, nilS, .rsl 0 0 3 (some 3)]] st_run3 (fun out σ => (AOut.map (layV 4 σ) out, σ.cut 4) = (some out_run3, st_run3)) = ((some out_run3, st_run3) = (some out_run3, st_run3)) := by kernel_rfl
theorem run3 : Cl 20 [.agg [.int .u8 0, .bool true, .int .u32 16, nilS, .rsl 0 0 3 (some 3)]] st_run3 out_run3 st_run3 := by
  obtain ⟨out, σ, h, hc⟩ := fnT_ok env2_ok 16 20 _ _ _ (vc_run3 ▸ rfl)
  have h1 := congrArg Prod.fst h
  have h2 := congrArg Prod.snd h
  have := hc.lay 4 (Nat.le_refl _) h1
  rw [show σ.cut 4 = _ from h2] at this
  exact this
end Go.Vid
