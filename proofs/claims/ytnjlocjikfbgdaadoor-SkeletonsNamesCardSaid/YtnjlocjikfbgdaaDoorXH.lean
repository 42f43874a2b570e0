/-
The program with the variable 'texts' known as well.
-/
import Derived.Test.YtnjlocjikfbgdaaDoorXF
set_option linter.all false
namespace Go.Vid
open Go.Proofs
set_option maxRecDepth 100000

def globT : Nat → Option (List AV)
  | 0 => some gTexts
  | n + 1 => glob (n + 1)

noncomputable def envT : Env := ⟨tab, globT, fnTree.get, inl⟩

theorem envT_ok : envT.Ok Tryd.prog where
  tab := tab_ok
  fb f fn h := (Tr.get_all fnTree_fits h).1
  mixed := by kernel_rfl

theorem glob_T : ∀ n cs, glob n = some cs → globT n = some cs
  | 0, _, h => by cases h
  | _ + 1, _, h => h

/-- What holds where less is known of the variables holds where more is known. -/
theorem XferOk.more {P : Program} {G G' : Nat → Option (List AV)} (hG : ∀ n cs, G n = some cs → G' n = some cs) {f : FuncId} {args : List AV} {σ σ' : St} {out : AOut} (h : XferOk P G f args σ out σ') : XferOk P G' f args σ out σ' := by
  intro C vs hI hF ha
  have hI0 : Inv P G C σ.g σ.dep := ⟨hI.lt, hI.dep, hI.obj, hI.inj, fun n cs hn => hI.glob n cs (hG n cs hn)⟩
  refine (h C vs hI0 hF ha).mono fun e w ⟨C', hw, hX, h3, h4, h5⟩ => ⟨C', hw, hX, ⟨h3.lt, h3.dep, h3.obj, h3.inj, fun n cs hn => ?_⟩, h4, h5⟩
  obtain ⟨q1, q2⟩ := hI.glob n cs hn
  refine ⟨hX.tag _ _ q1, q2.keep (S' := fun j c => j ≤ 0 ∧ C'.S j c) (φ' := noId) ⟨fun j b hj => ⟨hj.1, hX.tag j b hj.2⟩, fun j b off v hj hc => ?_, (fun _ _ _ hn _ => by cases hn), (fun _ _ hn => by cases hn)⟩ ⟨0, Nat.le_refl _, q1⟩⟩
  rw [cell?_of_heap (hX.prot j b hj.2)]
  exact hc
end Go.Vid
