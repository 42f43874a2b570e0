/-
SkeletonsMade returns true for every input that its row lets in, and leaves its argument as it was.
-/
import Derived.Test.YtnjlocjikfbgdaaDoorXR
import Derived.Test.YtnjlocjikfbgdaaDoorCards
namespace Go.Proofs.YtnjlocjikfbgdaaDoor.skeletonsMade
open Go.ChangeShapes Go.WideShapes Go.ChangeAt Go.RowKit Go.Vid
set_option maxRecDepth 100000
set_option linter.all false

theorem own : ownKnob Tryd.prog.godebug = none := by kernel_rfl

theorem reads (H : Type) (enc : TypeId × Value → H) (W : World) (v : Value) (d : DataW H) (p : List MemPlace) (base : Nat) (hv : Value.okWide Tryd.prog W .any base 25 v) (h : DataW.Trod enc Tryd.prog W 0 (fun _ => true) true 25 v d p) (hs : Sized 25 d) :
    ∃ a, (∀ S, Lies W S → Rd Tryd.prog W S noId a v) ∧ Sm 6 [a] (.bool true) := by
  obtain ⟨n, hn⟩ := h
  obtain ⟨w, codes, cells, hk, h0, h1, hb, hr⟩ := rd_K hn hs
  simp only [Value.okWide, Tryd.underlying25] at hv
  obtain ⟨cs, rfl, _, _⟩ := hv
  refine ⟨.agg cells, fun S hS => ?_, law6 lives hk h0 h1 hb⟩
  simp only [Rd]
  exact ⟨cs.toList, rfl, hr S hS⟩

/-- The call, in every world that holds the row's variables. -/
theorem contract (H : Type) (enc : TypeId × Value → H) (W : World) (base : Nat) (args : Array Value) (ds gs : List (DataW H)) (before : List MemPlace)
    (hval : ∀ (j : Nat) t v, Tryd.f6.params[j]? = some t → args[j]? = some v → Value.okWide Tryd.prog W .any base t v)
    (hW : DataW.Whole enc Tryd.prog Tryd.f6.params.toList Rows.skeletonsMadeSpec.vars false W args.toList ds gs before)
    (hsz : (DataW.weightsEach Tryd.prog (Tryd.f6.params.toList ++ Rows.skeletonsMadeSpec.plain.varTypes Tryd.prog) (ds ++ gs)).all (· ≤ reachBytes) = true)
    (hL : laidMetH Tryd.prog Rows.skeletonsMadeRow.laid W) :
    Calls Tryd.prog 6 args W fun e W' => ∃ v, e = .returned v ∧ Rows.skeletonsMadeSpec.post enc Tryd.prog Tryd.f6 false true false false W args v W' := by
  have hW' := hW
  obtain ⟨p, q, hA0, hV, rfl, hfz, hnd⟩ := hW
  have hA : DataW.TrodAll enc Tryd.prog W 0 (fun _ => true) true Tryd.f6.params.toList args.toList ds p := hA0
  rw [Tryd.params6] at hA hval hsz
  obtain ⟨v0, vs0, d0, ds0, p0, q0, hargs, rfl, rfl, h0, r0⟩ := trodAll_cons hA
  obtain ⟨rfl, rfl, rfl⟩ := trodAll_nil r0
  obtain rfl : args = #[v0] := by cases args; simp_all
  obtain ⟨rfl, rfl⟩ := trodVars_none hV
  have hs : Sized 25 d0 := by
    simp only [List.append_nil, List.cons_append, List.nil_append, DataW.weightsEach, List.all_append, Bool.and_eq_true] at hsz
    exact hsz.1
  obtain ⟨a, hr, hsm⟩ := reads H enc W v0 d0 p0 base (hval 0 25 v0 rfl rfl) h0 hs
  refine (law_call (vs := [v0]) (glob_rd hL) (fun S hS => .one (hr S hS)) hsm).mono fun e W' ⟨he, hos, hout, hsz, hh⟩ => ⟨_, he, ?_⟩
  exact post_old rfl rfl rfl (fun t ht => by
    rw [Tryd.params6] at ht
    obtain rfl : t = 25 := by simpa using ht
    exact ⟨by decide +kernel, by kernel_rfl⟩) hW' hos hout hsz hh

/-- A world for the witness: the variables hold what their initialisers lay. -/
noncomputable def laidWorld (os : Os) : World :=
  { World.holding Tryd.prog os ⟨#[], #[], []⟩ with heap := ((((World.holding Tryd.prog os ⟨#[], #[], []⟩).heap).modify 1 (layC (tblL.flatMap fldV).toArray)).modify 2 (layC #[.int .u8 0, .bool true, .int .u32 16])).modify 3 (layC #[.int .u8 0, .bool false, .int .u32 2]) }
def wit : Array Value := #[.agg #[.int .u8 0, .slice none 0 0, .slice none 0 0, .slice none 0 0, .slice none 0 0, .slice none 0 0, .slice none 0 0, .slice none 0 0, .slice none 0 0, .slice none 0 0, .slice none 0 0, .slice none 0 0, .slice none 0 0, .slice none 0 0]]
theorem laid_met (os : Os) : laidMet Tryd.prog Rows.skeletonsMadeRow.laid ((laidWorld os).forCall (fun _ _ => 0) ⟨#[], wit, []⟩).memory :=
  laidMet_of_run' 8 (by kernel_rfl) (by kernel_rfl)
theorem reads0 (os : Os) {H : Type} (enc : TypeId × Value → H) : ∃ places, DataW.whole enc Tryd.prog ((laidWorld os).forCall (fun _ _ => 0) ⟨#[], wit, []⟩).memory Tryd.f6.params.toList Rows.skeletonsMadeSpec.vars false wit.toList 8 = some ([.agg [.lit (.int .u8 0), .agg [.nil, .nil, .nil, .nil, .nil, .nil, .nil, .nil, .nil, .nil, .nil, .nil, .nil]]], [], places) :=
  ⟨[], by kernel_rfl⟩

theorem lifted (os : Os) (started : os.Started) (H : Type) (enc : TypeId × Value → H) (F : Stop.Interp) :
    ReturnsInHanded {} Tryd.checked os 6 .any ((OpenSpec.ofChange Rows.skeletonsMadeSpec).preRow enc Tryd.prog Tryd.f6 Rows.skeletonsMadeRow.domain false Rows.skeletonsMadeRow.laid) (((OpenSpec.ofChange Rows.skeletonsMadeSpec).at F).post enc Tryd.prog Tryd.f6 false true false false) := by
  obtain ⟨places, hx⟩ := reads0 os enc
  refine returnsInHanded_of_row (C := Tryd.checked) (s := OpenSpec.ofChange Rows.skeletonsMadeSpec) own started (by kernel_rfl) Tryd.func6
    (witness_row_at (enc := enc) (C := Tryd.checked) false (laidWorld os) wit rfl (by kernel_rfl) (by kernel_rfl) (by kernel_rfl)
      (OpenSpec.preRow_of_cond 8 hx (by kernel_rfl) (fun k hk => by cases hk) (by kernel_rfl) (laid_met os))) ?_
  intro W base args ds gs before hval hW _ _ hsz hL _ _
  exact contract H enc W base args ds gs before hval hW hsz hL

theorem said : Rows.SkeletonsMadeSaid :=
  OpenClaim.holds_of_cond 6 Tryd.f6 rfl rfl rfl rfl rfl rfl rfl ⟨rfl, rfl, rfl, rfl, rfl⟩ rfl rfl rfl rfl rfl (by kernel_rfl) Tryd.func6 (by kernel_rfl)
    (of_decide_eq_true (by kernel_rfl)) (by unfold Func.isWrapper; first | (rw [if_pos (by decide +kernel)]; kernel_rfl) | (rw [if_neg (by decide +kernel)]; exact ⟨rfl, rfl⟩))
    (fun os started H enc _ F => by rw [OpenClaim.pre_eq_preRow]; exact lifted os started H enc F)

theorem plain (f : FuncId) (fn : Func) (hf : Tryd.pinned.checked.prog.funcNamed "vidimus/vidimuslaw20.SkeletonsMade" = some f) (hfn : Tryd.pinned.checked.prog.funcs[f]? = some fn) :
    true = Tryd.pinned.checked.prog.looks [] ∧ ∀ (j : Nat) t, fn.params[j]? = some t → Tryd.pinned.checked.prog.wantsStandIn t = false := by
  obtain rfl : f = 6 := Option.some.inj ((show Tryd.prog.funcNamed "vidimus/vidimuslaw20.SkeletonsMade" = some 6 by kernel_rfl).symm.trans hf) |>.symm
  obtain rfl : fn = Tryd.f6 := (Option.some.inj (Tryd.func6.symm.trans hfn)).symm
  refine ⟨by kernel_rfl, fun j t ht => ?_⟩
  rw [Tryd.params6] at ht
  obtain rfl : t = 25 := by simpa using Array.mem_of_getElem? ht
  exact (show Tryd.prog.wantsStandIn 25 = false by kernel_rfl)

/-- THE CARD: SkeletonsMade returns true for every input, over the variables as the program's text lays them. -/
theorem card : Rows.SkeletonsMadeCardSaid :=
  Claim7.holds_tied_plain_at .later [] _ _ _ _ said (fun _ h => by cases h) (by kernel_rfl) (fun _ h => by cases h) skeletonsMade_row_tie rfl ⟨rfl, rfl⟩ (by kernel_rfl) rfl plain (by kernel_rfl)
end Go.Proofs.YtnjlocjikfbgdaaDoor.skeletonsMade
