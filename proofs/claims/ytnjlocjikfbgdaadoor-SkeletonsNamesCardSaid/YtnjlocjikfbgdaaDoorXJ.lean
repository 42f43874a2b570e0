/-
SkeletonsNames returns true for every input that its row lets in, and leaves its argument as it was.
-/
import Derived.Test.YtnjlocjikfbgdaaDoorXI
import Derived.Test.YtnjlocjikfbgdaaDoorCards
namespace Go.Proofs.YtnjlocjikfbgdaaDoor.skeletonsNames
open Go.ChangeShapes Go.WideShapes Go.ChangeAt Go.RowKit Go.Vid
set_option maxRecDepth 100000
set_option linter.all false

theorem own : ownKnob Tryd.prog.godebug = none := by kernel_rfl

theorem reads (H : Type) (enc : TypeId × Value → H) (W : World) (v : Value) (d : DataW H) (p : List MemPlace) (base : Nat) (hv : Value.okWide Tryd.prog W .any base 5 v) (h : DataW.Trod enc Tryd.prog W 0 (fun _ => true) true 5 v d p) (_hs : Sized 5 d) :
    ∃ a, (∀ S, Lies W S → Rd Tryd.prog W S noId a v) ∧ SmT 5 [a] (.bool true) := by
  simp only [Value.okWide, Tryd.underlying5, Cell.okWide] at hv
  cases v <;> simp only [Cell.ok, Tryd.underlying5] at hv
  rename_i k z
  obtain ⟨rfl, h0, h1⟩ := hv
  refine ⟨.int .u8 z, fun S _ => rd_int, law5 z ?_ ?_⟩
  · rw [show IntKind.u8.min = 0 from rfl] at h0; exact h0
  · rw [show IntKind.u8.max = 255 from rfl] at h1; omega

/-- The call, in every world that holds the row's variables. -/
theorem contract (H : Type) (enc : TypeId × Value → H) (W : World) (base : Nat) (args : Array Value) (ds gs : List (DataW H)) (before : List MemPlace)
    (hval : ∀ (j : Nat) t v, Tryd.f5.params[j]? = some t → args[j]? = some v → Value.okWide Tryd.prog W .any base t v)
    (hW : DataW.Whole enc Tryd.prog Tryd.f5.params.toList Rows.skeletonsNamesSpec.vars false W args.toList ds gs before)
    (hsz : (DataW.weightsEach Tryd.prog (Tryd.f5.params.toList ++ Rows.skeletonsNamesSpec.plain.varTypes Tryd.prog) (ds ++ gs)).all (· ≤ reachBytes) = true)
    (hL : laidMetH Tryd.prog Rows.skeletonsNamesRow.laid W) :
    Calls Tryd.prog 5 args W fun e W' => ∃ v, e = .returned v ∧ Rows.skeletonsNamesSpec.post enc Tryd.prog Tryd.f5 false true false false W args v W' := by
  have hW' := hW
  obtain ⟨p, q, hA0, hV, rfl, hfz, hnd⟩ := hW
  have hA : DataW.TrodAll enc Tryd.prog W 0 (fun _ => true) true Tryd.f5.params.toList args.toList ds p := hA0
  rw [Tryd.params5] at hA hval hsz
  obtain ⟨v0, vs0, d0, ds0, p0, q0, hargs, rfl, rfl, h0, r0⟩ := trodAll_cons hA
  obtain ⟨rfl, rfl, rfl⟩ := trodAll_nil r0
  obtain rfl : args = #[v0] := by cases args; simp_all
  obtain ⟨rfl, rfl⟩ := trodVars_none hV
  have hs : Sized 5 d0 := by
    simp only [List.append_nil, List.cons_append, List.nil_append, DataW.weightsEach, List.all_append, Bool.and_eq_true] at hsz
    exact hsz.1
  obtain ⟨a, hr, hsm⟩ := reads H enc W v0 d0 p0 base (hval 0 5 v0 rfl rfl) h0 hs
  refine (law_callG (vs := [v0]) (glob_rdT hL) (fun S hS => .one (hr S hS)) hsm).mono fun e W' ⟨he, hos, hout, hsz, hh⟩ => ⟨_, he, ?_⟩
  exact post_old rfl rfl rfl (fun t ht => by
    rw [Tryd.params5] at ht
    obtain rfl : t = 5 := by simpa using ht
    exact ⟨by decide +kernel, by kernel_rfl⟩) hW' hos hout hsz hh

/-- A world for the witness: the variables hold what their initialisers lay. -/
noncomputable def laidWorld (os : Os) : World :=
  { World.holding Tryd.prog os ⟨#[], #[], []⟩ with heap := ((((World.holding Tryd.prog os ⟨#[], #[], []⟩).heap.modify 0 (layC (txtL.map fun s => Value.string ⟨⟨s⟩⟩).toArray)).modify 1 (layC (tblL.flatMap fldV).toArray)).modify 2 (layC #[.int .u8 0, .bool true, .int .u32 16])).modify 3 (layC #[.int .u8 0, .bool false, .int .u32 2]) }
def wit : Array Value := #[.int .u8 0]
theorem laid_met (os : Os) : laidMet Tryd.prog Rows.skeletonsNamesRow.laid ((laidWorld os).forCall (fun _ _ => 0) ⟨#[], wit, []⟩).memory :=
  laidMet_of_run' 8 (by kernel_rfl) (by kernel_rfl)
theorem reads0 (os : Os) {H : Type} (enc : TypeId × Value → H) : ∃ places, DataW.whole enc Tryd.prog ((laidWorld os).forCall (fun _ _ => 0) ⟨#[], wit, []⟩).memory Tryd.f5.params.toList Rows.skeletonsNamesSpec.vars false wit.toList 8 = some ([.lit (.int .u8 0)], [], places) :=
  ⟨[], by kernel_rfl⟩

theorem lifted (os : Os) (started : os.Started) (H : Type) (enc : TypeId × Value → H) (F : Stop.Interp) :
    ReturnsInHanded {} Tryd.checked os 5 .any ((OpenSpec.ofChange Rows.skeletonsNamesSpec).preRow enc Tryd.prog Tryd.f5 Rows.skeletonsNamesRow.domain false Rows.skeletonsNamesRow.laid) (((OpenSpec.ofChange Rows.skeletonsNamesSpec).at F).post enc Tryd.prog Tryd.f5 false true false false) := by
  obtain ⟨places, hx⟩ := reads0 os enc
  refine returnsInHanded_of_row (C := Tryd.checked) (s := OpenSpec.ofChange Rows.skeletonsNamesSpec) own started (by kernel_rfl) Tryd.func5
    (witness_row_at (enc := enc) (C := Tryd.checked) false (laidWorld os) wit rfl (by kernel_rfl) (by kernel_rfl) (by kernel_rfl)
      (OpenSpec.preRow_of_cond 8 hx (by kernel_rfl) (fun k hk => by cases hk) (by kernel_rfl) (laid_met os))) ?_
  intro W base args ds gs before hval hW _ _ hsz hL _ _
  exact contract H enc W base args ds gs before hval hW hsz hL

theorem said : Rows.SkeletonsNamesSaid :=
  OpenClaim.holds_of_cond 5 Tryd.f5 rfl rfl rfl rfl rfl rfl rfl ⟨rfl, rfl, rfl, rfl, rfl⟩ rfl rfl rfl rfl rfl (by kernel_rfl) Tryd.func5 (by kernel_rfl)
    (of_decide_eq_true (by kernel_rfl)) (by unfold Func.isWrapper; first | (rw [if_pos (by decide +kernel)]; kernel_rfl) | (rw [if_neg (by decide +kernel)]; exact ⟨rfl, rfl⟩))
    (fun os started H enc _ F => by rw [OpenClaim.pre_eq_preRow]; exact lifted os started H enc F)

theorem plain (f : FuncId) (fn : Func) (hf : Tryd.pinned.checked.prog.funcNamed "vidimus/vidimuslaw20.SkeletonsNames" = some f) (hfn : Tryd.pinned.checked.prog.funcs[f]? = some fn) :
    true = Tryd.pinned.checked.prog.looks [] ∧ ∀ (j : Nat) t, fn.params[j]? = some t → Tryd.pinned.checked.prog.wantsStandIn t = false := by
  obtain rfl : f = 5 := Option.some.inj ((show Tryd.prog.funcNamed "vidimus/vidimuslaw20.SkeletonsNames" = some 5 by kernel_rfl).symm.trans hf) |>.symm
  obtain rfl : fn = Tryd.f5 := (Option.some.inj (Tryd.func5.symm.trans hfn)).symm
  refine ⟨by kernel_rfl, fun j t ht => ?_⟩
  rw [Tryd.params5] at ht
  obtain rfl : t = 5 := by simpa using Array.mem_of_getElem? ht
  exact (show Tryd.prog.wantsStandIn 5 = false by kernel_rfl)

/-- THE CARD: SkeletonsNames returns true for every input, over the variables as the program's text lays them. -/
theorem card : Rows.SkeletonsNamesCardSaid :=
  Claim7.holds_tied_plain_at .later [] _ _ _ _ said (fun _ h => by cases h) (by kernel_rfl) (fun _ h => by cases h) skeletonsNames_row_tie rfl ⟨rfl, rfl⟩ (by kernel_rfl) rfl plain (by kernel_rfl)
end Go.Proofs.YtnjlocjikfbgdaaDoor.skeletonsNames
