/-
elements.Get: a summary.
-/
import Derived.Test.YtnjlocjikfbgdaaDoorWR
set_option linter.all false
namespace Go.Vid
open Go.Proofs
set_option maxRecDepth 100000
set_option linter.unusedVariables false
section
open AExit AOut AV IntKind
theorem vc36 (nlb : Bool) (lenb : Nat) (csb : List AV) (cpb : Option Nat) (K : AOut → Prop) : (dataT Tryd.prog env [(36, { calls := [(5, [(2, Sh.bool fun b => Sh.cells fun cs => Sh.nat fun n => Sh.cap fun cp => Sh.int fun cnt => Sh.or (Sh.int fun c => Sh.bool fun k => Sh.int fun t => Sh.bool fun nl1 => Sh.cells fun cs1 => Sh.nat fun l1 => Sh.cap fun cp1 => Sh.bool fun nl2 => Sh.cells fun cs2 => Sh.nat fun l2 => Sh.cap fun cp2 => Sh.int fun nx => Sh.one (AOut.ret (tup [agg [int u8 c, AV.bool k, int u32 t, lsl nl1 0 cs1 l1 cp1, lsl nl2 0 cs2 l2 cp2], int i64 nx]), ⟨[some (AObj.cells [lsl b 0 cs n cp, int i64 cnt] 119 false)], 0⟩)) (Sh.int fun a => Sh.int fun err => Sh.one (AOut.panic (iface 116 (agg [int i64 a, int i64 err])), ⟨[some (AObj.cells [lsl b 0 cs n cp, int i64 cnt] 119 false)], 0⟩)))])] }), (56, { inl := true })] 36 [lsl nlb 0 csb lenb cpb] K) =
    (br (decide ((↑lenb : Int) > (1048576 : Int))) (K (AOut.ret (tup [agg [int u8 0, AV.bool false, int u32 0, nilS, nilS], int i64 0, int i64 0, int i64 3]))) (∃ b1 cs2 n3 cp4 z5, (∃ z6 b7 z8 b9 cs10 n11 cp12 b13 cs14 n15 cp16 z17, Cl 57 [ref 0 0, int i64 0, int i64 (↑lenb : Int), int i64 1] ⟨[some (AObj.cells [lsl nlb 0 csb lenb cpb, int i64 0] 119 false)], 0⟩ (AOut.ret (tup [agg [int u8 z6, AV.bool b7, int u32 z8, lsl b9 0 cs10 n11 cp12, lsl b13 0 cs14 n15 cp16], int i64 z17])) ⟨[some (AObj.cells [lsl b1 0 cs2 n3 cp4, int i64 z5] 119 false)], 0⟩ ∧ K (AOut.ret (tup [agg [int u8 z6, AV.bool b7, int u32 z8, lsl b9 0 cs10 n11 cp12, lsl b13 0 cs14 n15 cp16], int i64 z17, int i64 0, int i64 0]))) ∨ ∃ z18 z19, Cl 57 [ref 0 0, int i64 0, int i64 (↑lenb : Int), int i64 1] ⟨[some (AObj.cells [lsl nlb 0 csb lenb cpb, int i64 0] 119 false)], 0⟩ (AOut.panic (iface 116 (agg [int i64 z18, int i64 z19]))) ⟨[some (AObj.cells [lsl b1 0 cs2 n3 cp4, int i64 z5] 119 false)], 0⟩ ∧ K (AOut.ret (tup [agg [int u8 0, AV.bool false, int u32 0, nilS, nilS], int i64 0, int i64 z18, int i64 z19])))) := by kernel_rfl
end

/-! elements.Get -/
/-- Next: the element, its size, the offset of a fault, the error. -/
def nextM (b : List Int) : El × Int × Int × Int := if (b.length : Int) > 1048576 then (El.zero, 0, 0, 3) else match rdE b 16 0 b.length 0 with
  | .bad a e _ => (El.zero, 0, a, e)
  | .ok e nx _ => (e, nx, 0, 0)
/-- Get: the element, the offset of a fault, the error. -/
def getM (b : List Int) : El × Int × Int := if (nextM b).2.2.2 ≠ 0 then (El.zero, (nextM b).2.2.1, (nextM b).2.2.2) else if (nextM b).2.1 < b.length then (El.zero, (nextM b).2.1, 8) else ((nextM b).1, 0, 0)

theorem zero_bd : El.zero.Bd := by simp [El.zero, El.Bd, El.BdL]

theorem sum36 {b : List Int} (hby : Byt b) {a : AV} (h : SI .u8 b a) : (nextM b).1.Bd ∧ ∃ cells, ElA (nextM b).1 cells ∧ Sm 36 [a] (.tup [.agg cells, .int .i64 (nextM b).2.1, .int .i64 (nextM b).2.2.1, .int .i64 (nextM b).2.2.2]) := by
  obtain ⟨nl, ex, cp, rfl, hc, hl, hn⟩ := h
  by_cases h20 : (b.length : Int) > 1048576
  · have hm : nextM b = (El.zero, 0, 0, 3) := by unfold nextM; rw [if_pos h20]
    rw [hm]
    exact ⟨zero_bd, zC, ela_zero, sum_vc (vc36 ..) (br_t (decide_eq_true h20) rfl)⟩
  · have h57 := call57 (nl := nl) (ex := ex) (cp := cp) (show b.length ≤ 2 ^ 20 by omega) hby hn hc 16 (by omega) 0 b.length 0 (by omega) (by omega) (by omega)
    match hr : rdE b 16 0 b.length 0 with
    | .bad a e c =>
      have hm : nextM b = (El.zero, 0, a, e) := by unfold nextM; rw [if_neg h20, hr]
      rw [hm]
      rw [hr] at h57
      exact ⟨zero_bd, zC, ela_zero, sum_vc (vc36 ..) (br_f (decide_eq_false h20) ⟨_, _, _, _, _, .inr ⟨_, _, h57, rfl⟩⟩)⟩
    | .ok e nx c =>
      have hm : nextM b = (e, (nx : Int), 0, 0) := by unfold nextM; rw [if_neg h20, hr]
      rw [hm]
      rw [hr] at h57
      obtain ⟨⟨-, -, -, hbd⟩, cells, hel, hcl⟩ := h57
      have hel0 := hel
      obtain ⟨_, _, _, _, _, _, _, _, _, _, _, rfl⟩ := hel.cells
      exact ⟨hbd, _, hel0, sum_vc (vc36 ..) (br_f (decide_eq_false h20) ⟨_, _, _, _, _, .inl ⟨_, _, _, _, _, _, _, _, _, _, _, _, hcl, rfl⟩⟩)⟩

theorem sum15 {b : List Int} (hby : Byt b) {a : AV} (h : SI .u8 b a) : (getM b).1.Bd ∧ ∃ cells, ElA (getM b).1 cells ∧ Sm 15 [a] (.tup [.agg cells, .int .i64 (getM b).2.1, .int .i64 (getM b).2.2]) := by
  obtain ⟨hbd, cells, hel, h36⟩ := sum36 hby h
  have hel0 := hel
  obtain ⟨_, _, _, _, _, _, _, _, _, _, _, rfl⟩ := hel.cells
  obtain ⟨nl, ex, cp, rfl, hc, hl, hn⟩ := h
  unfold getM
  by_cases h1 : (nextM b).2.2.2 ≠ 0
  · rw [if_pos h1]
    exact ⟨zero_bd, zC, ela_zero, sum_vc (vc15 ..) ⟨_, _, _, _, _, _, _, _, _, _, _, _, _, _, h36, br_t (by simpa using h1) rfl⟩⟩
  · rw [if_neg h1]
    by_cases h2 : (nextM b).2.1 < b.length
    · rw [if_pos h2]
      exact ⟨zero_bd, zC, ela_zero, sum_vc (vc15 ..) ⟨_, _, _, _, _, _, _, _, _, _, _, _, _, _, h36, br_f (by simpa using h1) (br_t (decide_eq_true h2) rfl)⟩⟩
    · rw [if_neg h2]
      exact ⟨hbd, _, hel0, sum_vc (vc15 ..) ⟨_, _, _, _, _, _, _, _, _, _, _, _, _, _, h36, br_f (by simpa using h1) (br_f (decide_eq_false h2) rfl)⟩⟩

end Go.Vid
