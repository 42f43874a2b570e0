/-
The example of the chapter.
-/
import Derived.Test.YtnjlocjikfbgdaaDoorWT
namespace Go.Vid
open Go.Proofs
set_option maxRecDepth 100000
set_option linter.all false
section
open AExit AOut AV IntKind
theorem vc35c (K : AOut → Prop) : (dataT Tryd.prog env [(35, { }), (55, { loops := [(0, LoopS.unroll 12)], inl := true }), (69, { inl := true }), (70, { inl := true }), (83, { inl := true })] 35 [lsl false 0 [int u8 48, int u8 20, int u8 48, int u8 13, int u8 2, int u8 1, int u8 1, int u8 48, int u8 0, int u8 48, int u8 0, int u8 48, int u8 0, int u8 48, int u8 0, int u8 48, int u8 0, int u8 48, int u8 0, int u8 3, int u8 1, int u8 0] 22 (some 22)] K) =
    (K (AOut.ret (tup [agg [int u8 0, AV.bool true, int u32 16, nilS, lsl false 0 [int u8 0, AV.bool true, int u32 16, nilS, lsl false 0 [int u8 0, AV.bool false, int u32 2, lsl false 0 [int u8 1] 1 none, nilS, int u8 0, AV.bool true, int u32 16, nilS, nilS, int u8 0, AV.bool true, int u32 16, nilS, nilS, int u8 0, AV.bool true, int u32 16, nilS, nilS, int u8 0, AV.bool true, int u32 16, nilS, nilS, int u8 0, AV.bool true, int u32 16, nilS, nilS] 6 none, int u8 0, AV.bool true, int u32 16, nilS, nilS, int u8 0, AV.bool false, int u32 3, lsl false 0 [int u8 0] 1 none, nilS] 3 none], int i64 0, int i64 0]))) := by kernel_rfl
end

/-! the example of the chapter -/
def exB : List Int := [48, 20, 48, 13, 2, 1, 1, 48, 0, 48, 0, 48, 0, 48, 0, 48, 0, 48, 0, 3, 1, 0]
abbrev exA : AV := .lsl false 0 (exB.map (AV.int .u8)) 22 (some 22)

theorem exB_byt : Byt exB := by
  intro b hb
  simp [exB] at hb
  omega

theorem exA_si : SI .u8 exB exA := ⟨false, [], some 22, rfl, capOk_some, by decide, by simp⟩

def eq16 : El := .mk 0 true 16 [] []
def exE : El := .mk 0 true 16 [] [.mk 0 true 16 [] [.mk 0 false 2 [1] [], eq16, eq16, eq16, eq16, eq16], eq16, .mk 0 false 3 [0] []]

theorem exGet : getM exB = (exE, 0, 0) := by kernel_rfl
theorem exOf : ofM exE = .good 1 [-1, 0, 1, 2, 3, 4, 5, -1, -1, -1] := by kernel_rfl
theorem exSp : spansL exE (pathsOf [-1, 0, 1, 2, 3, 4, 5, -1, -1, -1]) = [2, 15, 0, 0, 4, 3, 7, 2, 9, 2, 11, 2, 13, 2, 15, 2, 0, 0, 0, 0, 0, 0, 17, 2, 19, 3] := by kernel_rfl

theorem exTg : exE.Tg := by
  simp [exE, eq16, El.Tg, El.TgL, TagN]

theorem ex12 : Sm 12 [exA] (.tup [.lsl false 0 ([2, 15, 0, 0, 4, 3, 7, 2, 9, 2, 11, 2, 13, 2, 15, 2, 0, 0, 0, 0, 0, 0, 17, 2, 19, 3].map (AV.int .i64)) 13 (some 13), .int .i64 0, .int .i64 0]) := by
  obtain ⟨v, hv, hs⟩ := sum12 exB_byt (by rw [exGet]; exact exTg) exA_si
  unfold SpV at hv
  rw [exGet] at hv
  simp only [ne_eq, not_true_eq_false, if_false] at hv
  rw [exOf] at hv
  simp only at hv
  rw [exSp] at hv
  rw [← hv]
  exact hs

end Go.Vid
