/-
Calls told more shortly; the tree evaluator: what a piece of code comes to, as a proposition that the kernel computes.
-/
import Derived.Test.YtnjlocjikfbgdaaDoorKB
set_option linter.all false

/-
What a call leaves, told more shortly: own objects that nobody reaches dropped, or what is left turned to data.
-/
namespace Go.Vid

variable {P : Program} {G : Nat → Option (List AV)} {T : Tab}

/-- All that is left becomes data. -/
theorem XferOk.shut {f : FuncId} {args : List AV} {σ σ1 : St} {out out' : AOut} {d : Nat} (h : XferOk P G f args σ out σ1) (hd : σ1.dep = d)
    (ho : AOut.map (fun v => match rsA (rsLook σ1.g 0 rsDepth) 0 v with
      | some (v', _) => if tagLe 0 v' = true then some v' else none
      | none => none) out = some out') : XferOk P G f args σ out' ⟨[], d⟩ := by
  intro C vs hI hF ha
  refine (h C vs hI hF ha).mono fun e w ⟨C2, hw, hE, hI2, hF2, hout⟩ => ?_
  subst hw
  rw [hd] at hI2
  let S3 : Nat → Nat → Prop := fun j b => C2.S j b ∨ (j = 0 ∧ ∃ id o, σ1.g id = some o ∧ C2.φ id = some b)
  have hS3 : ∀ k b, C2.S k b → S3 k b := fun k b h => .inl h
  let C' : Ctx := ⟨C2.w, S3, noId⟩
  have hX : ExtX C C' := by
    refine ⟨hE.os, hE.tape, hE.output, hE.size, fun k b hk => hS3 _ _ (hE.tag _ _ hk), hE.prot, hE.shp, ?_, (fun _ _ h => by cases h), hE.frm⟩
    rintro k b (h | ⟨_, id, _, _, h⟩)
    · exact hE.snew k b h
    · exact .inr (hE.pnew id b h)
  have hk : Keeps C2.w C2.w C2.S S3 noId noId := ⟨hS3, fun _ _ _ _ _ h => h, (fun _ _ _ hn _ => by cases hn), (fun _ _ hn => by cases hn)⟩
  have hI' : Inv P G C' (⟨[], d⟩ : St).g d := by
    refine ⟨?_, ?_, (fun id o ho => by simp [St.g] at ho), (fun i j b oi oj hi => by simp [St.g] at hi), fun n cs hn => ?_⟩
    · rintro k b (h | ⟨_, id, o, hg, hb⟩)
      · exact hI2.lt k b h
      · obtain ⟨b', h1, _, h3⟩ := hI2.obj id o hg
        rw [hb] at h1; cases h1; exact h3.lt
    · rintro k b (h | ⟨rfl, _⟩)
      · exact hI2.dep k b h
      · exact Nat.zero_le _
    · obtain ⟨h1, h2⟩ := hI2.glob n cs hn
      exact ⟨hS3 _ _ h1, h2.keep (hk.inner 0) ⟨0, Nat.le_refl _, h1⟩⟩
  have key : ∀ v v' u, (match rsA (rsLook σ1.g 0 rsDepth) 0 v with
      | some (v', _) => if tagLe 0 v' = true then some v' else none
      | none => none) = some v' → Rd P C2.w C2.S C2.φ v u → Rd P C'.w C'.S C'.φ v' u := by
    intro v v' u hm hr
    split at hm <;> try cases hm
    rename_i x r hx
    split at hm <;> cases hm
    exact rsA_rd hS3 (rsLook_ok hI2 hS3 (fun id o b hg hb => .inr ⟨rfl, id, o, hg, hb⟩) rsDepth) _ _ _ _ hx hr
  refine ⟨C', rfl, hX, hI', fun _ _ => rfl, ?_⟩
  cases out with
  | ret v =>
    simp only [AOut.map] at ho
    split at ho <;> cases ho
    obtain ⟨u, rfl, hu⟩ := hout
    exact ⟨u, rfl, key _ _ _ ‹_› hu⟩
  | panic v =>
    simp only [AOut.map] at ho
    split at ho <;> cases ho
    obtain ⟨u, rfl, hu⟩ := hout
    exact ⟨u, rfl, key _ _ _ ‹_› hu⟩

/-- Of what is left, the objects of a list, in its order. -/
def gcSt (L : List Nat) (σ : St) : Option (List (Option AObj)) := rnOs (fun i => idxIn L i 0) (L.map σ.g)

theorem XferOk.gc (L : List Nat) {f : FuncId} {args : List AV} {σ σ1 : St} {out out' : AOut} {objs : List (Option AObj)} {d : Nat} (h : XferOk P G f args σ out σ1) (hd : σ1.dep = d) (hnd : nodupB L = true)
    (ho : AOut.map (rnA fun i => idxIn L i 0) out = some out') (hobjs : gcSt L σ1 = some objs) : XferOk P G f args σ out' ⟨objs, d⟩ := by
  intro C vs hI hF ha
  refine (h C vs hI hF ha).mono fun e w ⟨C2, hw, hE, hI2, hF2, hout⟩ => ?_
  subst hw
  rw [hd] at hI2
  unfold gcSt at hobjs
  obtain ⟨hl1, hg1⟩ := rnOs_get hobjs
  let φ1 : Nat → Option Nat := fun j => (L[j]?).bind C2.φ
  have hφ1 : ∀ j b, φ1 j = some b → ∃ id, L[j]? = some id ∧ C2.φ id = some b := by
    intro j b hb
    simp only [φ1] at hb
    cases hr : L[j]? with
    | none => simp [hr] at hb
    | some id => rw [hr] at hb; exact ⟨id, rfl, hb⟩
  have hρ : ∀ id j b, idxIn L id 0 = some j → C2.φ id = some b → φ1 j = some b := by
    intro id j b hi hb
    obtain ⟨_, h2⟩ := idxIn_get hi
    rw [Nat.sub_zero] at h2
    simp only [φ1, h2, Option.bind_some, hb]
  let C' : Ctx := ⟨C2.w, C2.S, φ1⟩
  have hX : ExtX C C' := ⟨hE.os, hE.tape, hE.output, hE.size, hE.tag, hE.prot, hE.shp, hE.snew, fun j b hb => by
    obtain ⟨id, _, h2⟩ := hφ1 j b hb
    exact hE.pnew id b h2, hE.frm⟩
  have hobj1 : ∀ j o, (⟨objs, d⟩ : St).g j = some o → ∃ id o0, L[j]? = some id ∧ σ1.g id = some o0 ∧ rnO (fun i => idxIn L i 0) (some o0) = some (some o) := by
    intro j o hj
    simp only [St.g] at hj
    split at hj
    · rename_i x hx
      subst hj
      obtain ⟨o0, h1, h2⟩ := hg1 j _ hx
      simp only [List.getElem?_map, Option.map_eq_some_iff] at h1
      obtain ⟨id, h3, h4⟩ := h1
      cases o0 with
      | none => simp [rnO] at h2
      | some o0 => exact ⟨id, o0, h3, h4, h2⟩
    · cases hj
  have hI' : Inv P G C' (⟨objs, d⟩ : St).g d := by
    refine ⟨hI2.lt, hI2.dep, ?_, ?_, hI2.glob⟩
    · intro j o hj
      obtain ⟨id, o0, h1, h2, h3⟩ := hobj1 j o hj
      obtain ⟨b, q1, q2, q3⟩ := hI2.obj id o0 h2
      exact ⟨b, by simp only [C', φ1, h1, Option.bind_some, q1], q2, rnO_rd hρ h3 q3⟩
    · intro i j b oi oj hi hj hbi hbj
      obtain ⟨id, o0, h1, h2, _⟩ := hobj1 i oi hi
      obtain ⟨id', o0', h1', h2', _⟩ := hobj1 j oj hj
      simp only [C', φ1, h1, Option.bind_some] at hbi
      simp only [C', φ1, h1', Option.bind_some] at hbj
      have := hI2.inj id id' b o0 o0' h2 h2' hbi hbj
      subst this
      exact nodupB_get hnd i j id h1 h1'
  refine ⟨C', rfl, hX, hI', ?_, ?_⟩
  · intro j hj
    simp only [hl1, List.length_map] at hj
    simp only [C', φ1, List.getElem?_eq_none hj, Option.bind_none]
  · cases out with
    | ret v =>
      simp only [AOut.map] at ho
      split at ho <;> cases ho
      obtain ⟨u, rfl, hu⟩ := hout
      exact ⟨u, rfl, rnA_rd hρ _ _ u ‹_› hu⟩
    | panic v =>
      simp only [AOut.map] at ho
      split at ho <;> cases ho
      obtain ⟨u, rfl, hu⟩ := hout
      exact ⟨u, rfl, rnA_rd hρ _ _ u ‹_› hu⟩

/-- A function that gives data, by script. -/
def fnData (P : Program) (E : Env) (f : FuncId) (sc : List Scr) (args : List AV) : Option (AOut × List Prop) :=
  match fnRun P E f sc args ⟨[], 0⟩ with
  | some (out, σ1, ps) => match AOut.map (fun v => match rsA (rsLook σ1.g 0 rsDepth) 0 v with
      | some (v', _) => if tagLe 0 v' = true then some v' else none
      | none => none) out with
    | some out' => some (out', (σ1.dep = 0) :: ps)
    | none => none
  | none => none

theorem fnData_ok {E : Env} (hE : E.Ok P) {f : FuncId} {sc : List Scr} {args : List AV} {out : AOut} {ps : List Prop} (h : fnData P E f sc args = some (out, ps)) (hps : AllP ps) : XferOk P E.G f args ⟨[], 0⟩ out ⟨[], 0⟩ := by
  unfold fnData at h
  split at h <;> try cases h
  rename_i out1 σ1 ps1 h1
  split at h <;> cases h
  rename_i h2
  exact (fnRun_ok hE h1 hps.2).xfer.shut hps.1 h2

end Go.Vid

/-
Behind a piece of code: what is no longer needed forgotten, and the numbers of own objects given free again. For rounds of loops.
-/
namespace Go.Vid

variable {P : Program} {G : Nat → Option (List AV)} {T : Tab}

def below (n : Nat) (v : AV) : Bool := (refsA v).all fun i => Nat.blt i n
def belowL (n : Nat) (vs : List AV) : Bool := (refsL vs).all fun i => Nat.blt i n

def cutV (n : Nat) (v : AV) : AV := match below n v with
  | true => v
  | false => .any

def cutTs (n : Nat) : List AV → List AV
  | [] => []
  | v :: vs => cutV n v :: cutTs n vs

def cutO (n : Nat) : Option AObj → Option AObj
  | some (.cells cs e gr) => match belowL n cs with
    | true => some (.cells cs e gr)
    | false => none
  | none => none

def cutOs (n : Nat) : Nat → List (Option AObj) → List (Option AObj)
  | 0, _ => []
  | _, [] => []
  | k + 1, o :: os => cutO n o :: cutOs n k os

def Fr.cut (n : Nat) (fr : Fr) : Fr := ⟨cutTs n fr.tmps, fr.defs⟩
def St.cut (n : Nat) (σ : St) : St := ⟨cutOs n n σ.objs, σ.dep⟩

def defsBelow (n : Nat) (ds : List ADef) : Bool := ds.all fun d => belowL n d.args && belowL n d.cap

def exitBelow (n : Nat) : AExit → Bool
  | .panic v => below n v
  | _ => true

section
variable {w : World} {S : Nat → Nat → Prop} {φ φ' : Nat → Option Nat} {n : Nat}

theorem below_mem {n : Nat} {v : AV} (h : below n v = true) : ∀ i ∈ refsA v, i < n := fun i hi => by
  have := List.all_eq_true.1 h i hi
  simp [Nat.blt] at this
  omega
theorem belowL_mem {n : Nat} {v : List AV} (h : belowL n v = true) : ∀ i ∈ refsL v, i < n := fun i hi => by
  have := List.all_eq_true.1 h i hi
  simp [Nat.blt] at this
  omega

mutual
theorem rd_below (hφ : ∀ id b, id < n → φ id = some b → φ' id = some b) : ∀ (a : AV) (v : Value), (∀ i ∈ refsA a, i < n) → Rd P w S φ a v → Rd P w S φ' a v
  | .ref id off, v, hb, h => by
    simp only [Rd] at h ⊢
    obtain ⟨b, h1, rfl⟩ := h
    exact ⟨b, hφ _ _ (hb id (by simp [refsA])) h1, rfl⟩
  | .rsl id off len cap, v, hb, h => by
    simp only [Rd] at h ⊢
    obtain ⟨b, c, h1, rfl, h2⟩ := h
    exact ⟨b, c, hφ _ _ (hb id (by simp [refsA])) h1, rfl, h2⟩
  | .func fn fs cs, v, hb, h => by
    simp only [Rd] at h ⊢
    obtain ⟨vs, ws, rfl, h1, h2⟩ := h
    exact ⟨vs, ws, rfl, rdL_below hφ fs vs (fun i hi => hb i (by simp [refsA, hi])) h1, rdL_below hφ cs ws (fun i hi => hb i (by simp [refsA, hi])) h2⟩
  | .iface t x, v, hb, h => by
    simp only [Rd] at h ⊢
    obtain ⟨u, rfl, h1⟩ := h
    exact ⟨u, rfl, rd_below hφ x u (fun i hi => hb i (by simp [refsA, hi])) h1⟩
  | .agg cs, v, hb, h => by
    simp only [Rd] at h ⊢
    obtain ⟨vs, rfl, h1⟩ := h
    exact ⟨vs, rfl, rdL_below hφ cs vs (fun i hi => hb i (by simp [refsA, hi])) h1⟩
  | .tup cs, v, hb, h => by
    simp only [Rd] at h ⊢
    obtain ⟨vs, rfl, h1⟩ := h
    exact ⟨vs, rfl, rdL_below hφ cs vs (fun i hi => hb i (by simp [refsA, hi])) h1⟩
  | .bool _, _, _, h | .int _ _, _, _, h | .str _, _, _, h | .nilp, _, _, h | .nilf, _, _, h | .nili, _, _, h | .any, _, _, h | .lit _ _, _, _, h | .lsl _ _ _ _ _, _, _, h => by
    simp only [Rd] at h ⊢ <;> exact h
theorem rdL_below (hφ : ∀ id b, id < n → φ id = some b → φ' id = some b) : ∀ (as : List AV) (vs : List Value), (∀ i ∈ refsL as, i < n) → RdL P w S φ as vs → RdL P w S φ' as vs
  | [], vs, _, h => by simpa only [RdL] using h
  | a :: as, vs, hb, h => by
    simp only [RdL] at h ⊢
    obtain ⟨v, vs, rfl, h1, h2⟩ := h
    exact ⟨v, vs, rfl, rd_below hφ a v (fun i hi => hb i (by simp [refsL, hi])) h1, rdL_below hφ as vs (fun i hi => hb i (by simp [refsL, hi])) h2⟩
end

theorem cutTs_rd (hφ : ∀ id b, id < n → φ id = some b → φ' id = some b) : ∀ (as : List AV) (vs : List Value), RdL P w S φ as vs → RdL P w S φ' (cutTs n as) vs
  | [], vs, h => by simpa only [RdL, cutTs] using h
  | a :: as, vs, h => by
    simp only [RdL] at h
    obtain ⟨v, vs, rfl, h1, h2⟩ := h
    refine .cons ?_ (cutTs_rd hφ as vs h2)
    unfold cutV
    split
    · exact rd_below hφ a v (below_mem ‹_›) h1
    · simp only [Rd]

theorem cutOs_get {n : Nat} : ∀ (k : Nat) (os : List (Option AObj)) (i : Nat) (o : AObj), (cutOs n k os)[i]? = some (some o) → i < k ∧ ∃ x, os[i]? = some x ∧ cutO n x = some o
  | 0, _, i, o, h => by simp [cutOs] at h
  | k + 1, [], i, o, h => by simp [cutOs] at h
  | k + 1, x :: os, i, o, h => by
    simp only [cutOs] at h
    cases i with
    | zero => simp at h; exact ⟨by omega, x, by simp, h⟩
    | succ i =>
      simp at h
      obtain ⟨h1, h2⟩ := cutOs_get k os i o h
      exact ⟨by omega, by simpa using h2⟩

theorem cutOs_len {n : Nat} : ∀ (k : Nat) (os : List (Option AObj)), (cutOs n k os).length = min k os.length
  | 0, _ => by simp [cutOs]
  | k + 1, [] => by simp [cutOs]
  | k + 1, x :: os => by simp [cutOs, cutOs_len k os]

end

theorem defs_cut {C C' : Ctx} (hw : C'.w = C.w) (hS : C'.S = C.S) {n : Nat} (hφ : ∀ id b, id < n → C.φ id = some b → C'.φ id = some b) : ∀ (ds : List ADef) (l : List Deferred), defsBelow n ds = true → RdD P C ds l → RdD P C' ds l
  | [], l, _, h => by simpa only [RdD] using h
  | d :: ds, l, hb, h => by
    simp only [defsBelow, List.all_cons, Bool.and_eq_true] at hb
    simp only [RdD] at h ⊢
    obtain ⟨vs, ws, r, rfl, h1, h2, h3⟩ := h
    exact ⟨vs, ws, r, rfl, by rw [hw, hS]; exact rdL_below hφ _ _ (belowL_mem hb.1.1) h1, by rw [hw, hS]; exact rdL_below hφ _ _ (belowL_mem hb.1.2) h2, defs_cut hw hS hφ ds r hb.2 h3⟩

/-- Behind the code: only these temporaries, only the own objects under 'n'. -/
theorem CodeOk.trim (keep : List Nat) (n : Nat) {c : Code} {fr fr' : Fr} {σ σ' : St} {ae : AExit} (h : CodeOk P G c fr σ ae fr' σ') (hn : σ.objs.length ≤ n) (hd : defsBelow n fr'.defs = true) (he : exitBelow n ae = true) :
    CodeOk P G c fr σ ae ((fr'.only keep).cut n) (σ'.cut n) := by
  intro C C0 a hR hX
  refine wp_mono (h C C0 a hR hX) fun e a1 w1 ⟨C1, hw, hX1, hR1, hE⟩ => ?_
  subst hw
  let φ' : Nat → Option Nat := fun id => if id < n then C1.φ id else none
  let C2 : Ctx := ⟨C1.w, C1.S, φ'⟩
  have hφ : ∀ id b, id < n → C1.φ id = some b → φ' id = some b := fun id b h1 h2 => by simp only [φ', if_pos h1]; exact h2
  have hφ2 : ∀ id b, φ' id = some b → id < n ∧ C1.φ id = some b := by
    intro id b hb
    simp only [φ'] at hb
    split at hb
    · exact ⟨‹_›, hb⟩
    · cases hb
  have hX2 : Ext C0 C2 := by
    refine ⟨hX1.os, hX1.tape, hX1.output, hX1.size, hX1.tag, hX1.prot, hX1.shp, ?_, hX1.snew, fun id b hb => hX1.pnew id b (hφ2 id b hb).2, hX1.frm⟩
    intro id b hb
    have h1 := hX.phi id b hb
    have h2 : id < n := by
      rcases Nat.lt_or_ge id n with h | h
      · exact h
      · have := hR.fresh id (by omega); rw [h1] at this; cases this
    exact hφ id b h2 (hX1.phi id b hb)
  have hobj : ∀ id o, (σ'.cut n).g id = some o → id < n ∧ σ'.g id = some o ∧ ∃ cs el gr, o = .cells cs el gr ∧ belowL n cs = true := by
    intro id o ho
    simp only [St.g, St.cut] at ho
    split at ho
    · rename_i x hx
      subst ho
      obtain ⟨h1, x, h2, h3⟩ := cutOs_get _ _ _ _ hx
      unfold cutO at h3
      split at h3
      · rename_i cs el gr
        split at h3 <;> cases h3
        rename_i hb
        exact ⟨h1, by simp [St.g, h2], cs, el, gr, rfl, hb⟩
      · cases h3
    · cases ho
  refine ⟨C2, rfl, hX2, ⟨⟨hR1.inv.lt, hR1.inv.dep, ?_, ?_, hR1.inv.glob⟩, ?_, ?_, ?_⟩, ?_⟩
  · intro id o ho
    obtain ⟨h1, h2, cs, el, gr, rfl, hb⟩ := hobj id o ho
    obtain ⟨b, q1, q2, q3⟩ := hR1.inv.obj id _ h2
    refine ⟨b, hφ id b h1 q1, q2, ?_⟩
    obtain ⟨arr, fz, p1, p2, p3, p4, p5, p6⟩ := q3
    exact ⟨arr, fz, p1, p2, p3, p4, rdL_below hφ _ _ (belowL_mem hb) p5, p6⟩
  · intro i j b oi oj hi hj hbi hbj
    exact hR1.inv.inj i j b oi oj (hobj i oi hi).2.1 (hobj j oj hj).2.1 (hφ2 i b hbi).2 (hφ2 j b hbj).2
  · intro id hid
    show φ' id = none
    cases hp : φ' id with
    | none => rfl
    | some b =>
      obtain ⟨h1, h2⟩ := hφ2 id b hp
      have : σ'.objs.length ≤ id := by
        simp only [St.cut, cutOs_len] at hid
        omega
      rw [hR1.fresh id this] at h2
      cases h2
  · exact cutTs_rd hφ _ _ (keepTs_rd _ _ _ hR1.tmps)
  · exact defs_cut (C := C1) (C' := C2) rfl rfl hφ _ _ hd hR1.defs
  · cases ae with
    | panic v =>
      simp only [ERd] at hE ⊢
      obtain ⟨u, rfl, hu⟩ := hE
      exact ⟨u, rfl, rd_below hφ v u (below_mem he) hu⟩
    | _ => exact hE

/-- Behind a call: only the own objects under 'n'. -/
theorem CallOk.cut (n : Nat) {f : FuncId} {args : List AV} {σ σ' : St} {out : AOut} (h : CallOk P G f args σ out σ') (hn : σ.objs.length ≤ n) (ho : below n out.val = true) : CallOk P G f args σ out (σ'.cut n) := by
  intro C vs hI hF ha
  refine (h C vs hI hF ha).mono fun e w ⟨C1, hw, hX1, hI1, hF1, hout⟩ => ?_
  subst hw
  let φ' : Nat → Option Nat := fun id => if id < n then C1.φ id else none
  let C2 : Ctx := ⟨C1.w, C1.S, φ'⟩
  have hφ : ∀ id b, id < n → C1.φ id = some b → φ' id = some b := fun id b h1 h2 => by simp only [φ', if_pos h1]; exact h2
  have hφ2 : ∀ id b, φ' id = some b → id < n ∧ C1.φ id = some b := by
    intro id b hb
    simp only [φ'] at hb
    split at hb
    · exact ⟨‹_›, hb⟩
    · cases hb
  have hX2 : Ext C C2 := by
    refine ⟨hX1.os, hX1.tape, hX1.output, hX1.size, hX1.tag, hX1.prot, hX1.shp, ?_, hX1.snew, fun id b hb => hX1.pnew id b (hφ2 id b hb).2, hX1.frm⟩
    intro id b hb
    have h2 : id < n := by
      rcases Nat.lt_or_ge id n with h | h
      · exact h
      · have := hF id (by omega); rw [hb] at this; cases this
    exact hφ id b h2 (hX1.phi id b hb)
  have hobj : ∀ id o, (σ'.cut n).g id = some o → id < n ∧ σ'.g id = some o ∧ ∃ cs el gr, o = .cells cs el gr ∧ belowL n cs = true := by
    intro id o ho
    simp only [St.g, St.cut] at ho
    split at ho
    · rename_i x hx
      subst ho
      obtain ⟨h1, x, h2, h3⟩ := cutOs_get _ _ _ _ hx
      unfold cutO at h3
      split at h3
      · rename_i cs el gr
        split at h3 <;> cases h3
        rename_i hb
        exact ⟨h1, by simp [St.g, h2], cs, el, gr, rfl, hb⟩
      · cases h3
    · cases ho
  refine ⟨C2, rfl, hX2, ⟨hI1.lt, hI1.dep, ?_, ?_, hI1.glob⟩, ?_, ?_⟩
  · intro id o ho
    obtain ⟨h1, h2, cs, el, gr, rfl, hb⟩ := hobj id o ho
    obtain ⟨b, q1, q2, q3⟩ := hI1.obj id _ h2
    refine ⟨b, hφ id b h1 q1, q2, ?_⟩
    obtain ⟨arr, fz, p1, p2, p3, p4, p5, p6⟩ := q3
    exact ⟨arr, fz, p1, p2, p3, p4, rdL_below hφ _ _ (belowL_mem hb) p5, p6⟩
  · intro i j b oi oj hi hj hbi hbj
    exact hI1.inj i j b oi oj (hobj i oi hi).2.1 (hobj j oj hj).2.1 (hφ2 i b hbi).2 (hφ2 j b hbj).2
  · intro id hid
    show φ' id = none
    cases hp : φ' id with
    | none => rfl
    | some b =>
      obtain ⟨h1, h2⟩ := hφ2 id b hp
      have : σ'.objs.length ≤ id := by
        simp only [St.cut, cutOs_len] at hid
        omega
      rw [hF1 id this] at h2
      cases h2
  · cases out with
    | ret v => obtain ⟨u, rfl, hu⟩ := hout; exact ⟨u, rfl, rd_below hφ v u (below_mem ho) hu⟩
    | panic v => obtain ⟨u, rfl, hu⟩ := hout; exact ⟨u, rfl, rd_below hφ v u (below_mem ho) hu⟩

end Go.Vid

/-
Operations on data that is known in part: what is not known comes as a condition, or as 'there is'.
-/
namespace Go.Vid

/-- Two ways, by a bool. -/
def br (v : Bool) (a b : Prop) : Prop := Bool.rec (motive := fun _ => Prop) b a v
theorem br_i {v : Bool} {a b : Prop} (h : v = true → a) (k : v = false → b) : br v a b := by cases v; exact k rfl; exact h rfl
theorem br_t {v : Bool} {a b : Prop} (e : v = true) (h : a) : br v a b := by subst e; exact h
theorem br_f {v : Bool} {a b : Prop} (e : v = false) (h : b) : br v a b := by subst e; exact h
theorem br_iff {v : Bool} {a b : Prop} : br v a b ↔ (v = true → a) ∧ (v = false → b) := by cases v <;> simp [br]
@[simp] theorem br_true {a b : Prop} : br true a b ↔ a := Iff.rfl
@[simp] theorem br_false {a b : Prop} : br false a b ↔ b := Iff.rfl

/-- The shape of something that is not known. -/
inductive Sh (α : Type) : Type where
  | one (a : α)
  | int (f : Int → Sh α)
  | nat (f : Nat → Sh α)
  | bool (f : Bool → Sh α)
  | cells (f : List AV → Sh α)
  | cap (f : Option Nat → Sh α)
  | av (f : AV → Sh α)
  | str (f : ByteArray → Sh α)
  | or (a b : Sh α)

def Sh.any {α : Type} : Sh α → (α → Prop) → Prop
  | .one a, K => K a
  | .int f, K => ∃ x, (f x).any K
  | .nat f, K => ∃ x, (f x).any K
  | .bool f, K => ∃ x, (f x).any K
  | .cells f, K => ∃ x, (f x).any K
  | .cap f, K => ∃ x, (f x).any K
  | .av f, K => ∃ x, (f x).any K
  | .str f, K => ∃ x, (f x).any K
  | .or a b, K => a.any K ∨ b.any K

theorem Sh.any_ok {α : Type} {K : α → Prop} : ∀ (s : Sh α), s.any K → ∃ a, K a
  | .one a, h => ⟨a, h⟩
  | .int f, ⟨x, h⟩ | .nat f, ⟨x, h⟩ | .bool f, ⟨x, h⟩ | .cells f, ⟨x, h⟩ | .cap f, ⟨x, h⟩ | .av f, ⟨x, h⟩ | .str f, ⟨x, h⟩ => Sh.any_ok (f x) h
  | .or a b, h => h.elim (Sh.any_ok a) (Sh.any_ok b)

section
variable {α : Type} (T : Tab)

def shFs (E : TypeId → (List AV → Sh α) → Sh α) : List Field → (List AV → Sh α) → Sh α
  | [], k => k []
  | f :: fs, k => E f.type fun a => shFs E fs fun r => k (a ++ r)

def shN (E : (List AV → Sh α) → Sh α) : Nat → (List AV → Sh α) → Sh α
  | 0, k => k []
  | n + 1, k => E fun a => shN E n fun r => k (a ++ r)

/-- The cells of a type. -/
def shCells : Nat → TypeId → (List AV → Sh α) → Sh α
  | 0, _, k => .cells k
  | d + 1, t, k => match T.und t with
    | some .bool => .bool fun b => k [.bool b]
    | some (.int kd) => .int fun n => k [.int kd n]
    | some .string => .str fun s => k [.str s]
    | some (.slice _) => .bool fun nl => .cells fun cs => .nat fun len => .cap fun c => k [.lsl nl 0 cs len c]
    | some (.struct fs) => shFs (shCells d) fs.toList k
    | some (.array n e) => shN (shCells d e) n k
    | _ => .av fun a => k [a]

def shVal (t : TypeId) (k : AV → Sh α) : Sh α := shCells T 8 t fun cs => match aggB T t with
  | some true => k (.agg cs)
  | _ => k (cs.headD .undef)

def shVals : List TypeId → (List AV → Sh α) → Sh α
  | [], k => k []
  | t :: ts, k => shVal T t fun a => shVals ts fun r => k (a :: r)
end

section
variable (T : Tab) (ρ : Operand → Option AV) (g : Nat → Option AObj) (h : Nat)

def shPat (e : TypeId) : Sh (List AV) := shCells T 8 e fun p => .cells fun r => .one (p ++ r)

def ixT (t : TypeId) (x i : AV) (K : AV → Prop) : Prop :=
  match i with
  | .int _ n => match T.und t, x with
    | some (.slice e), .lsl nl k cs len _ => match T.siz e with
      | some s => nl = false ∧ 0 ≤ n ∧ n < len ∧ (shPat T e).any fun p => cs.drop (n.toNat * s) = p ∧ K (.lit k p)
      | none => False
    | some (.slice e), .rsl id off len _ => match T.siz e with
      | some s => 0 ≤ n ∧ n < len ∧ K (.ref id (off + n.toNat * s))
      | none => False
    | some (.array len e), .lit k cs => match T.siz e with
      | some s => 0 ≤ n ∧ n < len ∧ (shPat T e).any fun p => cs.drop (n.toNat * s) = p ∧ K (.lit k p)
      | none => False
    | some (.array len e), .ref id off => match T.siz e with
      | some s => 0 ≤ n ∧ n < len ∧ K (.ref id (off + n.toNat * s))
      | none => False
    | _, _ => False
  | _ => False

theorem ixT_ok {t : TypeId} {x i : AV} {K : AV → Prop} (hk : ixT T t x i K) : ∃ a, aIndexAddr T t x i = some a ∧ K a := by
  unfold ixT at hk
  split at hk <;> try exact hk.elim
  split at hk <;> (try exact hk.elim) <;> rename_i hu <;> split at hk <;> (try exact hk.elim) <;> rename_i hs
  · obtain ⟨h0, h1, h2, hk⟩ := hk
    obtain ⟨p, rfl, hk⟩ := Sh.any_ok _ hk
    exact ⟨_, by simp [aIndexAddr, hu, hs, h0, h1, h2], hk⟩
  · obtain ⟨h1, h2, hk⟩ := hk
    exact ⟨_, by simp [aIndexAddr, hu, hs, h1, h2], hk⟩
  · obtain ⟨h1, h2, hk⟩ := hk
    obtain ⟨p, rfl, hk⟩ := Sh.any_ok _ hk
    exact ⟨_, by simp [aIndexAddr, hu, hs, h1, h2], hk⟩
  · obtain ⟨h1, h2, hk⟩ := hk
    exact ⟨_, by simp [aIndexAddr, hu, hs, h1, h2], hk⟩

def sizIs (t : TypeId) (p : List AV) : Bool := match T.siz t with
  | some n => Nat.beq n p.length
  | none => false

def loT (t : TypeId) (p : AV) (K : Eff → Prop) : Prop :=
  match cellsFrom g p with
  | none => False
  | some (cs, rd) => match aggB T t with
    | some true => (shCells T 8 t fun p => .cells fun r => .one (p, r)).any fun (p, r) => match sizIs T t p with
      | true => cs = p ++ r ∧ K ⟨.agg p, [], rd, 0⟩
      | false => False
    | some false => (shCells T 8 t fun p => .cells fun r => .one (p, r)).any fun (p, r) => match p with
      | a :: _ => cs = p ++ r ∧ K ⟨a, [], rd, 0⟩
      | [] => False
    | none => False

theorem loT_ok {t : TypeId} {p : AV} {K : Eff → Prop} (hk : loT T g t p K) : ∃ e, aLoad T g t p = some e ∧ K e := by
  unfold loT at hk
  split at hk
  · exact hk.elim
  · rename_i cs rd hc
    split at hk
    · rename_i ha
      obtain ⟨⟨q, r⟩, hq⟩ := Sh.any_ok _ hk
      clear hk
      simp only at hq
      split at hq
      · rename_i hsz
        obtain ⟨rfl, hq⟩ := hq
        refine ⟨_, ?_, hq⟩
        unfold sizIs at hsz
        cases hs : T.siz t with
        | none => rw [hs] at hsz; cases hsz
        | some n =>
          rw [hs] at hsz
          have hn : n = q.length := Nat.eq_of_beq_eq_true hsz
          subst hn
          simp [aLoad, hc, loadT, ha, hs]
      · exact hq.elim
    · rename_i ha
      obtain ⟨⟨q, r⟩, hq⟩ := Sh.any_ok _ hk
      clear hk
      simp only at hq
      split at hq
      · obtain ⟨rfl, hq⟩ := hq
        exact ⟨_, by simp [aLoad, hc, loadT, ha], hq⟩
      · exact hq.elim
    · exact hk.elim

def stT (t : TypeId) (p x : AV) (K : Eff → Prop) : Prop :=
  match p with
  | .ref id off => match g id with
    | some (.cells cs e gr) => match sizIs T t x.cells && x.cells.all AV.one with
      | true => off + x.cells.length ≤ cs.length ∧ K ⟨.undef, [(id, some (.cells (putL cs off x.cells) e gr))], [id], 0⟩
      | false => False
    | none => False
  | _ => False

theorem stT_ok {t : TypeId} {p x : AV} {K : Eff → Prop} (hk : stT T g t p x K) : ∃ e, aStore T g t p x = some e ∧ K e := by
  unfold stT at hk
  split at hk <;> try exact hk.elim
  rename_i id off
  split at hk <;> try exact hk.elim
  rename_i cs e gr hg
  split at hk <;> try exact hk.elim
  rename_i hb
  simp only [Bool.and_eq_true] at hb
  obtain ⟨hsz, h1⟩ := hb
  have : T.siz t = some x.cells.length := by
    unfold sizIs at hsz
    cases hs : T.siz t with
    | none => rw [hs] at hsz; cases hsz
    | some n => rw [hs] at hsz; rw [Nat.eq_of_beq_eq_true hsz]
  exact ⟨_, by simp only [aStore, hg]; exact if_pos ⟨this, h1, hk.1⟩, hk.2⟩

def boT (x : Option AV) (y dflt : Nat) (K : Nat → Prop) : Prop :=
  match x with
  | none => K dflt
  | some (.int _ n) => 0 ≤ n ∧ n ≤ y ∧ K n.toNat
  | some _ => False

theorem boT_ok {x : Option AV} {y dflt : Nat} {K : Nat → Prop} (hk : boT x y dflt K) : ∃ n, bound x y dflt = some n ∧ K n := by
  unfold boT at hk
  split at hk
  · exact ⟨_, rfl, hk⟩
  · exact ⟨_, by simp [bound, hk.1, hk.2.1], hk.2.2⟩
  · exact hk.elim

def bo3T (len : Nat) (cap : Option Nat) (lo hi mx : Option AV) (K : Nat → Nat → Option Nat → Prop) : Prop :=
  match mx, hi with
  | none, none => boT lo len 0 fun l => K l len cap
  | none, some hv => boT (some hv) (cap.getD len) 0 fun hh => boT lo hh 0 fun l => K l hh cap
  | some mv, some hv => boT (some mv) (cap.getD len) 0 fun m => boT (some hv) m 0 fun hh => boT lo hh 0 fun l => K l hh (some m)
  | some _, none => False

theorem bo3T_ok {len : Nat} {cap : Option Nat} {lo hi mx : Option AV} {K : Nat → Nat → Option Nat → Prop} (hk : bo3T len cap lo hi mx K) : ∃ l hh c, bounds3 len cap lo hi mx = some (l, hh, c) ∧ K l hh c := by
  unfold bo3T at hk
  split at hk
  · obtain ⟨l, h1, hk⟩ := boT_ok hk
    exact ⟨l, _, _, by simp [bounds3, h1], hk⟩
  · obtain ⟨hh, h1, hk⟩ := boT_ok hk
    obtain ⟨l, h2, hk⟩ := boT_ok hk
    exact ⟨l, hh, _, by simp [bounds3, h1, h2], hk⟩
  · obtain ⟨m, h0, hk⟩ := boT_ok hk
    obtain ⟨hh, h1, hk⟩ := boT_ok hk
    obtain ⟨l, h2, hk⟩ := boT_ok hk
    exact ⟨l, hh, _, by simp [bounds3, h0, h1, h2], hk⟩
  · exact hk.elim

def slT (t : TypeId) (x : AV) (lo hi mx : Option AV) (K : AV → Prop) : Prop :=
  match T.und t with
  | some (.slice e) => match T.siz e with
    | some sz => match x with
      | .lsl nl k cs len cap => bo3T len cap lo hi mx fun l hh c => K (.lsl nl k (if hh = l then [] else cs.drop (l * sz)) (hh - l) (c.map (· - l)))
      | .rsl id off len (some cap) => bo3T len (some cap) lo hi mx fun l hh c => match c with
        | some c => K (.rsl id (if c = l then off else off + l * sz) (hh - l) (some (c - l)))
        | none => False
      | .rsl id off len none => bo3T len none lo hi mx fun l hh c => match c with
        | some c => K (.rsl id (if c = l then off else off + l * sz) (hh - l) (some (c - l)))
        | none => l = 0 ∧ K (.rsl id off hh none)
      | _ => False
    | none => False
  | some (.array n e) => match T.siz e with
    | some sz => match x with
      | .lit k cs => bo3T n (some n) lo hi mx fun l hh c => match c with
        | some c => K (.lsl false k (if hh = l then [] else cs.drop (l * sz)) (hh - l) (some (c - l)))
        | none => False
      | .ref id off => bo3T n (some n) lo hi mx fun l hh c => match c with
        | some c => K (.rsl id (if c = l then off else off + l * sz) (hh - l) (some (c - l)))
        | none => False
      | _ => False
    | none => False
  | _ => False

theorem slT_ok {t : TypeId} {x : AV} {lo hi mx : Option AV} {K : AV → Prop} (hk : slT T t x lo hi mx K) : ∃ a, aSlice T t x lo hi mx = some a ∧ K a := by
  unfold slT at hk
  split at hk
  · rename_i e hu
    split at hk <;> try exact hk.elim
    rename_i sz hs
    split at hk
    · obtain ⟨l, hh, c, hb, hk⟩ := bo3T_ok hk
      exact ⟨_, by simp [aSlice, hu, hs, aSliceRow, hb], hk⟩
    · obtain ⟨l, hh, c, hb, hk⟩ := bo3T_ok hk
      cases c with
      | none => exact hk.elim
      | some c => exact ⟨_, by simp [aSlice, hu, hs, aSliceRow, hb], hk⟩
    · obtain ⟨l, hh, c, hb, hk⟩ := bo3T_ok hk
      cases c with
      | none => exact ⟨_, by simp [aSlice, hu, hs, aSliceRow, hb, hk.1], hk.2⟩
      | some c => exact ⟨_, by simp [aSlice, hu, hs, aSliceRow, hb], hk⟩
    · exact hk.elim
  · rename_i n e hu
    split at hk <;> try exact hk.elim
    rename_i sz hs
    split at hk
    · obtain ⟨l, hh, c, hb, hk⟩ := bo3T_ok hk
      cases c with
      | none => exact hk.elim
      | some c => exact ⟨_, by simp [aSlice, hu, hs, hb], hk⟩
    · obtain ⟨l, hh, c, hb, hk⟩ := bo3T_ok hk
      cases c with
      | none => exact hk.elim
      | some c => exact ⟨_, by simp [aSlice, hu, hs, hb], hk⟩
    · exact hk.elim
  · exact hk.elim

/-- What is appended or copied. -/
def srT (sz : Nat) (x : AV) (K : Nat → List AV → List Nat → Prop) : Prop :=
  match x with
  | .lsl _ _ cs len _ => len * sz ≤ cs.length ∧ K len cs []
  | .rsl id off len _ => match g id with
    | some (.cells cs _ _) => off + len * sz ≤ cs.length ∧ K len (cs.drop off) [id]
    | none => False
  | .str s => match Nat.beq sz 1 with
    | true => K s.size (s.data.toList.map fun b => .int .u8 b.toNat) []
    | false => False
  | _ => False

theorem srT_ok {sz : Nat} {x : AV} {K : Nat → List AV → List Nat → Prop} (hk : srT g sz x K) : ∃ n xs rd, srcCells g sz x = some (n, xs, rd) ∧ K n xs rd := by
  unfold srT at hk
  split at hk
  · exact ⟨_, _, _, by simp [srcCells, hk.1], hk.2⟩
  · split at hk
    · rename_i hg
      exact ⟨_, _, _, by simp [srcCells, hg, hk.1], hk.2⟩
    · exact hk.elim
  · split at hk
    · rename_i hb
      have := Nat.eq_of_beq_eq_true hb
      exact ⟨_, _, _, by simp [srcCells, this], hk⟩
    · exact hk.elim
  · exact hk.elim

def zOk (z : AV) (sz : Nat) : Bool := Nat.beq z.cells.length sz && z.cells.all AV.one
theorem zOk_ok {z : AV} {sz : Nat} (h : zOk z sz = true) : z.cells.length = sz ∧ z.cells.all AV.one = true := by
  simp only [zOk, Bool.and_eq_true] at h
  exact ⟨Nat.eq_of_beq_eq_true h.1, h.2⟩

def apS (e : TypeId) (sz by_ : Nat) (s : AV) (K : Eff → Prop) (n : Nat) (xs : List AV) (rd : List Nat) : Prop :=
  match s with
  | .lsl nl k cs len cap => br (Nat.beq n 0) (K ⟨.lsl nl k cs len cap, [], rd, 0⟩)
      ((nl = true ∨ cap = some len) ∧ len * sz ≤ cs.length ∧ (len + n) * by_ ≤ maxRoom ∧ len + n ≤ maxRoom ∧
        K ⟨.rsl h 0 (len + n) none, [(h, some (.cells (cs.take (len * sz) ++ xs.take (n * sz)) e true))], rd, 1⟩)
  | .rsl id off len (some c) => match g id with
    | none => False
    | some (.cells cs e' gr) => br (Nat.beq n 0) (K ⟨.rsl id off len (some c), [], rd, 0⟩)
      (br (Nat.ble (len + n) c) (off + (len + n) * sz ≤ cs.length ∧ K ⟨.rsl id off (len + n) (some c), [(id, some (.cells (putL cs (off + len * sz) (xs.take (n * sz))) e' gr))], id :: rd, 0⟩)
        (off + len * sz ≤ cs.length ∧ (len + n) * by_ ≤ maxRoom ∧ len + n ≤ maxRoom ∧
          K ⟨.rsl h 0 (len + n) none, [(h, some (.cells ((cs.drop off).take (len * sz) ++ xs.take (n * sz)) e true))], id :: rd, 1⟩))
  | .rsl id 0 len none => match g id with
    | none => False
    | some (.cells cs e' gr) => match gr && Nat.beq e' e with
      | true => br (Nat.beq n 0) (K ⟨.rsl id 0 len none, [], rd, 0⟩)
        (cs.length = len * sz ∧ (len + n) * by_ ≤ maxRoom ∧ len + n ≤ maxRoom ∧
          K ⟨.rsl h 0 (len + n) none, [(id, none), (h, some (.cells (cs ++ xs.take (n * sz)) e true))], id :: rd, 1⟩)
      | false => False
  | _ => False

/-- What is appended is something, and where there is room for it. -/
def apI (e : TypeId) (sz by_ : Nat) (s : AV) (K : Eff → Prop) (n : Nat) (xs : List AV) (rd : List Nat) : Prop :=
  match s with
  | .lsl nl _ cs len cap => n ≠ 0 ∧ (nl = true ∨ cap = some len) ∧ len * sz ≤ cs.length ∧ (len + n) * by_ ≤ maxRoom ∧ len + n ≤ maxRoom ∧
        K ⟨.rsl h 0 (len + n) none, [(h, some (.cells (cs.take (len * sz) ++ xs.take (n * sz)) e true))], rd, 1⟩
  | .rsl id off len (some c) => match g id with
    | none => False
    | some (.cells cs e' gr) => n ≠ 0 ∧ len + n ≤ c ∧ off + (len + n) * sz ≤ cs.length ∧ K ⟨.rsl id off (len + n) (some c), [(id, some (.cells (putL cs (off + len * sz) (xs.take (n * sz))) e' gr))], id :: rd, 0⟩
  | .rsl id 0 len none => match g id with
    | none => False
    | some (.cells cs e' gr) => match gr && Nat.beq e' e with
      | true => n ≠ 0 ∧ cs.length = len * sz ∧ (len + n) * by_ ≤ maxRoom ∧ len + n ≤ maxRoom ∧
          K ⟨.rsl h 0 (len + n) none, [(id, none), (h, some (.cells (cs ++ xs.take (n * sz)) e true))], id :: rd, 1⟩
      | false => False
  | _ => False

theorem apI_ap {e : TypeId} {sz by_ : Nat} {s : AV} {K : Eff → Prop} {n : Nat} {xs : List AV} {rd : List Nat} (hk : apI g h e sz by_ s K n xs rd) : apS g h e sz by_ s K n xs rd := by
  unfold apI at hk
  unfold apS
  have hb : ∀ {n : Nat}, n ≠ 0 → Nat.beq n 0 = false := fun {n} hn => by
    cases n with
    | zero => exact absurd rfl hn
    | succ m => rfl
  split at hk
  · obtain ⟨h0, hk⟩ := hk
    rw [hb h0]; exact hk
  · split at hk
    · exact hk.elim
    · rename_i hg
      obtain ⟨h0, h1, hk⟩ := hk
      try rw [hg]
      simp only [hb h0, Nat.ble_eq_true_of_le h1, br_false, br_true]
      exact hk
  · split at hk
    · exact hk.elim
    · rename_i hg
      split at hk
      · rename_i hgr
        obtain ⟨h0, hk⟩ := hk
        try rw [hg]
        simp only [hgr, hb h0, br_false]
        exact hk
      · exact hk.elim
  · exact hk.elim

def apT (wi : Bool) (tys : Array TypeId) (args : List AV) (K : Eff → Prop) : Prop :=
  match tys, args with
  | ⟨[t, u]⟩, [s, x] => match T.und t, T.und u with
    | some (.slice e), some du => match du with
      | .int _ => False
      | _ => match T.siz e, T.byt e, T.zer e with
        | some (sz' + 1), some by_, some z => match zOk z (sz' + 1) with
          | true => match wi with
            | false => srT g (sz' + 1) x (apS g h e (sz' + 1) by_ s K)
            | true => srT g (sz' + 1) x (apI g h e (sz' + 1) by_ s K)
          | false => False
        | _, _, _ => False
    | _, _ => False
  | _, _ => False

def apF (e : TypeId) (sz by_ : Nat) (z s : AV) (n : Nat) (xs : List AV) (rd : List Nat) : Option Eff :=
  let new := xs.take (n * sz)
  if n = 0 then (match s with
    | .lsl .. | .rsl .. => some ⟨s, [], rd, 0⟩
    | _ => none)
  else match s with
  | .lsl nl _ cs len cap =>
    if (nl = true ∨ cap = some len) ∧ len * sz ≤ cs.length ∧ z.cells.length = sz ∧ z.cells.all AV.one = true ∧ (len + n) * by_ ≤ maxRoom ∧ len + n ≤ maxRoom then
      some ⟨.rsl h 0 (len + n) none, [(h, some (.cells (cs.take (len * sz) ++ new) e true))], rd, 1⟩
    else none
  | .rsl id off len cap => match g id with
    | none => none
    | some (.cells cs e' gr) =>
      match cap with
      | some c =>
        if len + n ≤ c then
          if off + (len + n) * sz ≤ cs.length then
            some ⟨.rsl id off (len + n) (some c), [(id, some (.cells (putL cs (off + len * sz) new) e' gr))], id :: rd, 0⟩
          else none
        else
          if off + len * sz ≤ cs.length ∧ z.cells.length = sz ∧ z.cells.all AV.one = true ∧ (len + n) * by_ ≤ maxRoom ∧ len + n ≤ maxRoom then
            some ⟨.rsl h 0 (len + n) none, [(h, some (.cells ((cs.drop off).take (len * sz) ++ new) e true))], id :: rd, 1⟩
          else none
      | none =>
        if off = 0 ∧ cs.length = len * sz ∧ gr = true ∧ e' = e ∧ z.cells.length = sz ∧ z.cells.all AV.one = true ∧ (len + n) * by_ ≤ maxRoom ∧ len + n ≤ maxRoom then
          some ⟨.rsl h 0 (len + n) none, [(id, none), (h, some (.cells (cs ++ new) e true))], id :: rd, 1⟩
        else none
  | _ => none

theorem apS_ok {e : TypeId} {sz by_ : Nat} {z s : AV} {K : Eff → Prop} {n : Nat} {xs : List AV} {rd : List Nat} (hz1 : z.cells.length = sz) (hz2 : z.cells.all AV.one = true) (hk : apS g h e sz by_ s K n xs rd) :
    ∃ ef, apF g h e sz by_ z s n xs rd = some ef ∧ K ef := by
  unfold apS at hk
  unfold apF
  cases hn : Nat.beq n 0 with
  | true =>
    have hn0 : n = 0 := Nat.eq_of_beq_eq_true hn
    rw [hn] at hk
    simp only [hn0, if_true]
    split at hk
    · exact ⟨_, rfl, hn0 ▸ hk⟩
    · split at hk
      · exact hk.elim
      · exact ⟨_, rfl, hn0 ▸ hk⟩
    · split at hk
      · exact hk.elim
      · split at hk
        · exact ⟨_, rfl, hn0 ▸ hk⟩
        · exact hk.elim
    · exact hk.elim
  | false =>
    have hn0 : ¬ n = 0 := Nat.ne_of_beq_eq_false hn
    rw [hn] at hk
    simp only [hn0, if_false]
    split at hk
    · obtain ⟨h1, h2, h3, h4, hk⟩ := hk
      exact ⟨_, if_pos ⟨h1, h2, hz1, hz2, h3, h4⟩, hk⟩
    · split at hk
      · exact hk.elim
      · rename_i id off len c o cs e' gr hg
        simp only [hg]
        cases hl : Nat.ble (len + n) c with
        | true =>
          have hl0 : len + n ≤ c := Nat.le_of_ble_eq_true hl
          rw [hl] at hk
          exact ⟨_, by rw [if_pos hl0, if_pos hk.1], hk.2⟩
        | false =>
          have hl0 : ¬ len + n ≤ c := fun hle => by rw [Nat.ble_eq_true_of_le hle] at hl; cases hl
          rw [hl] at hk
          obtain ⟨h1, h2, h3, hk⟩ := hk
          exact ⟨_, by rw [if_neg hl0, if_pos ⟨h1, hz1, hz2, h2, h3⟩], hk⟩
    · split at hk
      · exact hk.elim
      · rename_i id len o cs e' gr hg
        split at hk <;> try exact hk.elim
        rename_i hgr
        simp only [Bool.and_eq_true] at hgr
        have he := Nat.eq_of_beq_eq_true hgr.2
        obtain ⟨h1, h2, h3, hk⟩ := hk
        simp only [hg]
        exact ⟨_, if_pos ⟨trivial, h1, hgr.1, he, hz1, hz2, h2, h3⟩, hk⟩
    · exact hk.elim

theorem apT_ok {wi : Bool} {tys : Array TypeId} {args : List AV} {K : Eff → Prop} (hk : apT T g h wi tys args K) : ∃ e, aAppend T g h tys args = some e ∧ K e := by
  unfold apT at hk
  split at hk <;> try exact hk.elim
  split at hk <;> try exact hk.elim
  rename_i t u s x _ _ e du ht hu
  split at hk <;> try exact hk.elim
  rename_i hdu
  split at hk <;> try exact hk.elim
  rename_i sz' by_ z hs hb hz
  split at hk <;> try exact hk.elim
  rename_i hzz
  obtain ⟨hz1, hz2⟩ := zOk_ok hzz
  have hk : ∃ n xs rd, srcCells g (sz' + 1) x = some (n, xs, rd) ∧ apS g h e (sz' + 1) by_ s K n xs rd := by
    split at hk
    · exact srT_ok g hk
    · obtain ⟨n, xs, rd, h1, h2⟩ := srT_ok g hk
      exact ⟨n, xs, rd, h1, apI_ap g h h2⟩
  obtain ⟨n, xs, rd, hsrc, hk⟩ := hk
  obtain ⟨ef, h1, h2⟩ := apS_ok g h hz1 hz2 hk
  refine ⟨ef, ?_, h2⟩
  rw [← h1]
  simp only [aAppend, ht, hu, hs, hb, hz, hsrc, apF]
  rfl

def cpT (tys : Array TypeId) (args : List AV) (K : Eff → Prop) : Prop :=
  match tys, args with
  | ⟨t :: _⟩, [dst, x] => match T.und t with
    | some (.slice e) => match T.siz e with
      | some sz => srT g sz x fun n xs rd => match dst with
        | .rsl id off len _ => match g id with
          | some (.cells cs e' gr) => off + min n len * sz ≤ cs.length ∧ K ⟨.int .i64 (min n len : Nat), [(id, some (.cells (putL cs off (xs.take (min n len * sz))) e' gr))], id :: rd, 0⟩
          | none => False
        | _ => False
      | none => False
    | _ => False
  | _, _ => False

theorem cpT_ok {tys : Array TypeId} {args : List AV} {K : Eff → Prop} (hk : cpT T g tys args K) : ∃ e, aCopy T g tys args = some e ∧ K e := by
  unfold cpT at hk
  split at hk <;> try exact hk.elim
  split at hk <;> try exact hk.elim
  rename_i hu
  split at hk <;> try exact hk.elim
  rename_i hs
  obtain ⟨n, xs, rd, hsrc, hk⟩ := srT_ok g hk
  split at hk <;> try exact hk.elim
  split at hk <;> try exact hk.elim
  rename_i hg
  exact ⟨_, by simp [aCopy, hu, hs, hsrc, hg, hk.1], hk.2⟩

def mkT (t : TypeId) (len cap : AV) (K : Eff → Prop) : Prop :=
  match len, cap with
  | .int _ l, .int _ c => match T.und t with
    | some (.slice e) => match T.siz e, T.byt e, T.zer e with
      | some (sz' + 1), some by_, some z => match zOk z (sz' + 1) with
        | true => 0 ≤ l ∧ l ≤ c ∧ c ≤ (maxRoom : Int) ∧ c.toNat * by_ ≤ maxRoom ∧ K ⟨.rsl h 0 l.toNat (some c.toNat), [(h, some (.cells (madeRow z.cells (c.toNat * (sz' + 1))) e false))], [], 1⟩
        | false => False
      | _, _, _ => False
    | _ => False
  | _, _ => False

theorem mkT_ok {t : TypeId} {len cap : AV} {K : Eff → Prop} (hk : mkT T h t len cap K) : ∃ e, aMakeSlice T h t len cap = some e ∧ K e := by
  unfold mkT at hk
  split at hk <;> try exact hk.elim
  split at hk <;> try exact hk.elim
  rename_i hu
  split at hk <;> try exact hk.elim
  rename_i hs hb hz
  split at hk <;> try exact hk.elim
  rename_i hzz
  obtain ⟨hz1, hz2⟩ := zOk_ok hzz
  obtain ⟨h1, h2, h3, h4, hk⟩ := hk
  exact ⟨_, by simp only [aMakeSlice, hu, hs, hb, hz]; exact if_pos ⟨h1, h2, h3, h4, hz1, hz2⟩, hk⟩

def cvT (src dst : TypeId) (x : AV) (K : Eff → Prop) : Prop :=
  match T.und src, T.und dst with
  | some (.slice e), some .string => match T.und e with
    | some (.int .u8) => match x with
      | .lsl _ _ cs n _ => n * 1 ≤ cs.length ∧ ∃ bs : List UInt8, bytesOfCells (cs.take n) = some bs ∧ K ⟨.str ⟨bs.toArray⟩, [], [], 0⟩
      | .rsl id off n _ => match g id with
        | some (.cells cs _ _) => off + n * 1 ≤ cs.length ∧ ∃ bs : List UInt8, bytesOfCells ((cs.drop off).take n) = some bs ∧ K ⟨.str ⟨bs.toArray⟩, [], [id], 0⟩
        | none => False
      | _ => False
    | _ => False
  | _, _ => False

theorem cvT_ok {src dst : TypeId} {x : AV} {K : Eff → Prop} (hk : cvT T g src dst x K) : ∃ e, aConv T g src dst x = some e ∧ K e := by
  unfold cvT at hk
  split at hk <;> try exact hk.elim
  rename_i hu hd
  split at hk <;> try exact hk.elim
  rename_i he
  split at hk
  · obtain ⟨h1, bs, h2, hk⟩ := hk
    simp only [Nat.mul_one] at h1
    exact ⟨_, by simp [aConv, hu, hd, he, srcCells, h1, h2], hk⟩
  · split at hk <;> try exact hk.elim
    rename_i hg
    obtain ⟨h1, bs, h2, hk⟩ := hk
    simp only [Nat.mul_one] at h1
    exact ⟨_, by simp [aConv, hu, hd, he, srcCells, hg, h1, h2], hk⟩
  · exact hk.elim

/-- Equality of structs, all fields looked at. -/
def eqFsW (E : TypeId → AV → AV → Option Bool) (xs ys : List AV) : List Field → Option Bool
  | [] => some true
  | [f] => if f.name ≠ "_" then
      match aPart T f.type xs f.offset, aPart T f.type ys f.offset with
      | some a, some b => E f.type a b
      | _, _ => none
    else some true
  | f :: fs =>
    if f.name ≠ "_" then
      match aPart T f.type xs f.offset, aPart T f.type ys f.offset with
      | some a, some b => match E f.type a b, eqFsW E xs ys fs with
        | some p, some q => some (p && q)
        | _, _ => none
      | _, _ => none
    else eqFsW E xs ys fs

theorem eqFsW_ok {E E' : TypeId → AV → AV → Option Bool} (hE : ∀ t a b c, E t a b = some c → E' t a b = some c) {xs ys : List AV} : ∀ (fs : List Field) {c : Bool}, eqFsW T E xs ys fs = some c → eqFs T E' xs ys fs = some c
  | [], c, h => h
  | [f], c, h => by
    simp only [eqFsW] at h
    simp only [eqFs]
    split at h
    · rename_i hf
      simp only [hf, ne_eq, not_false_eq_true, if_true]
      split at h <;> try cases h
      rename_i a b ha hb
      simp only [ha, hb, hE _ _ _ _ h]
      cases c <;> rfl
    · rename_i hf
      simp only [hf, if_false]
      exact h
  | f :: f2 :: fs, c, h => by
    simp only [eqFsW] at h
    rw [eqFs]
    split at h
    · rename_i hf
      simp only [hf, ne_eq, not_false_eq_true, if_true]
      split at h <;> try cases h
      rename_i a b ha hb
      split at h <;> cases h
      rename_i p q hp hq
      simp only [ha, hb, hE _ _ _ _ hp]
      cases p
      · rfl
      · simpa using eqFsW_ok hE (f2 :: fs) hq
    · rename_i hf
      simp only [hf, if_false]
      exact eqFsW_ok hE (f2 :: fs) h

def eqW : Nat → TypeId → AV → AV → Option Bool
  | 0, _, _, _ => none
  | d + 1, t, x, y => match T.und t, x, y with
    | some .bool, .bool a, .bool b => some (a == b)
    | some (.int _), .int k a, .int k' b => if k = k' then some (a == b) else none
    | some .string, .str a, .str b => some (a == b)
    | some (.struct fs), .agg xs, .agg ys => if T.eqs t then eqFsW T (eqW d) xs ys fs.toList else none
    | _, _, _ => none

theorem eqW_ok : ∀ (d : Nat) (t : TypeId) (x y : AV) (c : Bool), eqW T d t x y = some c → aEq T d t x y = some c
  | 0, t, x, y, c, h => by simp [eqW] at h
  | d + 1, t, x, y, c, h => by
    simp only [eqW] at h
    split at h <;> (try cases h) <;> rename_i hu
    · simp only [aEq, hu]
    · split at h <;> cases h
      rename_i hk
      simp only [aEq, hu, if_pos hk]
    · simp only [aEq, hu]
    · split at h <;> try cases h
      rename_i he
      simp only [aEq, hu, if_pos he]
      exact eqFsW_ok T (eqW_ok d) _ h

def plT (o : Op) (K : Eff → Prop) : Prop := match astep T ρ g h o with
  | some e => K e
  | none => False

theorem plT_ok {o : Op} {K : Eff → Prop} (hk : plT T ρ g h o K) : ∃ e, astep T ρ g h o = some e ∧ K e := by
  unfold plT at hk
  split at hk
  · exact ⟨_, ‹_›, hk⟩
  · exact hk.elim

/-- One operation on what is known in part. -/
def opW (wi : Bool) (o : Op) (K : Eff → Prop) : Prop :=
  match o with
  | .indexAddr t x i => match ρ x, ρ i with
    | some x, some i => ixT T t x i fun a => K (.of a)
    | _, _ => False
  | .load t p => match ρ p with
    | some p => loT T g t p K
    | none => False
  | .index t x i => match ρ x, ρ i with
    | some (.agg cs), some (.int _ n) => match T.und t with
      | some (.array len e) => match T.siz e with
        | some s => 0 ≤ n ∧ n < len ∧ loT T g e (.lit 0 (cs.drop (n.toNat * s))) fun ef => K (.of ef.v)
        | none => False
      | _ => False
    | _, _ => False
  | .store t p x => match ρ p, ρ x with
    | some p, some x => stT T g t p x K
    | _, _ => False
  | .slice t x lo hi mx => match ρ x, optM ρ lo, optM ρ hi, optM ρ mx with
    | some x, some lo, some hi, some mx => slT T t x lo hi mx fun a => K (.of a)
    | _, _, _, _ => False
  | .makeSlice t l c => match ρ l, ρ c with
    | some l, some c => mkT T h t l c K
    | _, _ => False
  | .convert s d x => match ρ x with
    | some x => cvT T g s d x K
    | none => False
  | .binOp op t x y _ => match ρ x, ρ y with
    | some (.agg a), some (.agg b) => match T.eqs t with
      | true => match eqW T Op.maxDepth t (.agg a) (.agg b) with
        | some c => match op with
          | .eql => K (.of (.bool c))
          | .neq => K (.of (.bool !c))
          | _ => False
        | none => False
      | false => False
    | some (.lsl nl _ _ _ _), some (.lsl true _ _ _ _) => match T.und t with
      | some (.slice _) => match op with
        | .eql => K (.of (.bool nl))
        | .neq => K (.of (.bool !nl))
        | _ => False
      | _ => False
    | _, _ => False
  | .call { callee := .builtin .append, args, argTypes } => match argsM ρ args.toList with
    | some as => apT T g h wi argTypes as K
    | none => False
  | .call { callee := .builtin .copy, args, argTypes } => match argsM ρ args.toList with
    | some as => cpT T g argTypes as K
    | none => False
  | _ => False

theorem opW_ok {wi : Bool} {o : Op} {K : Eff → Prop} (hk : opW T ρ g h wi o K) : ∃ e, astep T ρ g h o = some e ∧ K e := by
  unfold opW at hk
  split at hk
  · split at hk <;> try exact hk.elim
    rename_i h1 h2
    obtain ⟨a, ha, hk⟩ := ixT_ok T hk
    exact ⟨_, by simp [astep, h1, h2, ha], hk⟩
  · split at hk <;> try exact hk.elim
    rename_i h1
    obtain ⟨a, ha, hk⟩ := loT_ok T g hk
    exact ⟨_, by simp [astep, h1, ha], hk⟩
  · split at hk <;> try exact hk.elim
    rename_i h1 h2
    split at hk <;> try exact hk.elim
    rename_i hu
    split at hk <;> try exact hk.elim
    rename_i hs
    obtain ⟨h3, h4, hk⟩ := hk
    obtain ⟨a, ha, hk⟩ := loT_ok T g hk
    refine ⟨_, ?_, hk⟩
    have hp : ∀ (e : TypeId) (cs : List AV) (o : Nat) (v : AV), loadT T e (cs.drop o) = some v → aPart T e cs o = some v := by
      intro e cs o v hv
      unfold loadT at hv
      unfold aPart
      split at hv
      · split at hv <;> try cases hv
        rename_i m hm
        split at hv <;> cases hv
        simp [hm]
      · simpa [List.head?_drop] using hv
      · cases hv
    have ha2 : ∀ e cs, aLoad T g e (.lit 0 cs) = some a → loadT T e cs = some a.v := by
      intro e cs ha
      unfold aLoad at ha
      simp only [cellsFrom] at ha
      cases hl : loadT T e cs with
      | none => rw [hl] at ha; cases ha
      | some v => rw [hl] at ha; cases ha; rfl
    simp [astep, h1, h2, aIndex, hu, hs, h3, h4, hp _ _ _ _ (ha2 _ _ ha)]
  · split at hk <;> try exact hk.elim
    rename_i h1 h2
    obtain ⟨a, ha, hk⟩ := stT_ok T g hk
    exact ⟨_, by simp [astep, h1, h2, ha], hk⟩
  · split at hk <;> try exact hk.elim
    rename_i h1 h2 h3 h4
    obtain ⟨a, ha, hk⟩ := slT_ok T hk
    exact ⟨_, by simp [astep, h1, h2, h3, h4, ha], hk⟩
  · split at hk <;> try exact hk.elim
    rename_i h1 h2
    obtain ⟨a, ha, hk⟩ := mkT_ok T h hk
    exact ⟨_, by simp [astep, h1, h2, ha], hk⟩
  · split at hk <;> try exact hk.elim
    rename_i h1
    obtain ⟨a, ha, hk⟩ := cvT_ok T g hk
    exact ⟨_, by simp [astep, h1, ha], hk⟩
  · split at hk <;> try exact hk.elim
    · rename_i h1 h2
      split at hk <;> try exact hk.elim
      rename_i he
      split at hk <;> try exact hk.elim
      rename_i hc
      have := eqW_ok T _ _ _ _ _ hc
      split at hk <;> try exact hk.elim
      · exact ⟨_, by simp [astep, h1, h2, aBin, he, this], hk⟩
      · exact ⟨_, by simp [astep, h1, h2, aBin, he, this], hk⟩
    · rename_i nl _ _ _ _ _ _ _ _ h1 h2
      split at hk <;> try exact hk.elim
      rename_i e hu
      split at hk <;> try exact hk.elim
      · refine ⟨_, ?_, hk⟩
        cases nl <;> simp [astep, h1, h2, aBin, aEq, hu, Op.maxDepth, Eff.of]
      · refine ⟨_, ?_, hk⟩
        cases nl <;> simp [astep, h1, h2, aBin, aEq, hu, Op.maxDepth, Eff.of]
  · split at hk <;> try exact hk.elim
    rename_i h1
    obtain ⟨a, ha, hk⟩ := apT_ok T g h hk
    exact ⟨_, by simp [astep, h1, ha], hk⟩
  · split at hk <;> try exact hk.elim
    rename_i h1
    obtain ⟨a, ha, hk⟩ := cpT_ok T g hk
    exact ⟨_, by simp [astep, h1, ha], hk⟩
  · exact hk.elim

/-- How an operation is taken: both ways of a bool · known in part · told. -/
inductive Kd where
  | b
  | w
  | wi
  | fz
  | fw
  | sh (s : Sh Eff)

def effT (kd : Option Kd) (o : Op) (K : Eff → Prop) : Prop :=
  match kd with
  | none => plT T ρ g h o K
  | some .b => plT T ρ g h o fun e => match boolOf e.v with
    | some c => br c (K ⟨.bool true, e.ups, e.rds, e.m⟩) (K ⟨.bool false, e.ups, e.rds, e.m⟩)
    | none => False
  | some .w => opW T ρ g h false o K
  | some .wi => opW T ρ g h true o K
  | some .fz => plT T ρ g h o K
  | some .fw => opW T ρ g h false o K
  | some (.sh s) => s.any fun e => astep T ρ g h o = some e ∧ K e

theorem effT_ok {kd : Option Kd} {o : Op} {K : Eff → Prop} (hk : effT T ρ g h kd o K) : ∃ e, astep T ρ g h o = some e ∧ K e := by
  unfold effT at hk
  split at hk
  · exact plT_ok T ρ g h hk
  · obtain ⟨e, he, hk⟩ := plT_ok T ρ g h hk
    split at hk <;> try exact hk.elim
    rename_i c hc
    obtain ⟨v, u, r, m⟩ := e
    cases v <;> simp only [boolOf, Option.some.injEq, reduceCtorEq] at hc
    subst hc
    rename_i b
    cases b with
    | true => exact ⟨_, he, hk⟩
    | false => exact ⟨_, he, hk⟩
  · exact opW_ok T ρ g h hk
  · exact opW_ok T ρ g h hk
  · exact plT_ok T ρ g h hk
  · exact opW_ok T ρ g h hk
  · obtain ⟨e, he, hk⟩ := Sh.any_ok _ hk
    exact ⟨e, he, hk⟩
end

end Go.Vid

/-
A TREE of what a piece of code can come to: one proposition, in which every way that a condition can go, and every answer of a call, has its place.
-/
namespace Go.Vid

variable {P : Program} {G : Nat → Option (List AV)} {T : Tab}

def AndP : List Prop → Prop → Prop
  | [], X => X
  | p :: ps, X => p ∧ AndP ps X

theorem AndP_iff : ∀ {ps : List Prop} {X : Prop}, AndP ps X ↔ AllP ps ∧ X
  | [], X => by simp [AndP, AllP]
  | p :: ps, X => by simp [AndP, AllP, AndP_iff (ps := ps), and_assoc]

inductive LoopS where
  | inv (keep : List Nat) (s : List AV → St → Sh (AExit × List (Nat × AV) × St))
  | unroll (n : Nat)

/-- How the tree of a function is grown. -/
structure Sc where
  ops : List (Nat × List (Nat × Kd)) := []
  loops : List (Nat × LoopS) := []
  calls : List (Nat × List (Nat × Sh (AOut × St))) := []
  inl : Bool := false
  lax : List TypeId := []
  shs : List (FuncId × Sh (AOut × St)) := []

abbrev IAsk := FuncId → Option (List AV → St → (AOut → St → Prop) → Prop)

def hasN : List Nat → Nat → Bool
  | [], _ => false
  | k :: r, i => match Nat.beq k i with
    | true => true
    | false => hasN r i

/-- Is an object not looked into? By its type, or (number 1000 + type) by its type where it grows. -/
def isLax (lax : List TypeId) (e : TypeId) (gr : Bool) : Bool := match hasN lax e with
  | true => true
  | false => match gr with
    | true => hasN lax (e + 1000)
    | false => false

/-- Own objects laid open, those of some types without a look into them. -/
def rsLookC (lax : List TypeId) (g : Nat → Option AObj) : Nat → Nat → Option (List AV × List Nat)
  | 0, _ => none
  | n + 1, id => match g id with
    | some (.cells cs e gr) => match isLax lax e gr with
      | true => some (cs, [])
      | false => match rsL (rsLookC lax g n) 0 cs with
        | some (cs', rd) => if tagLeL 0 cs' = true then some (cs', rd) else none
        | none => none
    | none => none

/-- What has to hold of those. -/
def laxP (lax : List TypeId) (g : Nat → Option AObj) : List Nat → Prop → Prop
  | [], X => X
  | id :: r, X => match g id with
    | some (.cells cs e gr) => match isLax lax e gr with
      | true => tagLeL 0 cs = true ∧ laxP lax g r X
      | false => laxP lax g r X
    | none => laxP lax g r X

mutual
theorem tagLe_rsA {look : Nat → Option (List AV × List Nat)} {K : Nat} : ∀ (a : AV), tagLe K a = true → rsA look K a = some (a, [])
  | .bool _, _ | .int _ _, _ | .str _, _ | .nilp, _ | .nilf, _ | .nili, _ | .any, _ | .lit _ _, _ | .lsl _ _ _ _ _, _ => by simp only [rsA]
  | .ref _ _, h | .rsl _ _ _ _, h => by simp [tagLe] at h
  | .func fn fs cs, h => by
    simp only [tagLe, Bool.and_eq_true] at h
    simp only [rsA, tagLe_rsL fs h.1, tagLe_rsL cs h.2, List.append_nil]
  | .iface t v, h => by
    simp only [tagLe] at h
    simp only [rsA, tagLe_rsA v h]
  | .agg cs, h => by
    simp only [tagLe] at h
    simp only [rsA, tagLe_rsL cs h]
  | .tup cs, h => by
    simp only [tagLe] at h
    simp only [rsA, tagLe_rsL cs h]
theorem tagLe_rsL {look : Nat → Option (List AV × List Nat)} {K : Nat} : ∀ (as : List AV), tagLeL K as = true → rsL look K as = some (as, [])
  | [], _ => by simp only [rsL]
  | a :: as, h => by
    simp only [tagLeL, Bool.and_eq_true] at h
    simp only [rsL, tagLe_rsA a h.1, tagLe_rsL as h.2, List.append_nil]
end

def LaxAt (lax : List TypeId) (g : Nat → Option AObj) (i : Nat) : Prop := ∀ cs e gr, g i = some (.cells cs e gr) → isLax lax e gr = true → tagLeL 0 cs = true

theorem laxP_ok {lax : List TypeId} {g : Nat → Option AObj} {X : Prop} : ∀ {l : List Nat}, laxP lax g l X → (∀ i ∈ l, LaxAt lax g i) ∧ X
  | [], h => ⟨by simp, h⟩
  | id :: r, h => by
    simp only [laxP] at h
    have key : ∀ {c : Prop}, LaxAt lax g id → (∀ i ∈ r, LaxAt lax g i) ∧ X → (∀ i ∈ id :: r, LaxAt lax g i) ∧ X := fun h1 h2 => ⟨by
      intro i hi
      rcases List.mem_cons.1 hi with rfl | hi
      · exact h1
      · exact h2.1 i hi, h2.2⟩
    split at h
    · rename_i cs e gr hg
      split at h
      · exact key (c := True) (fun cs' e' gr' h1 _ => by rw [hg] at h1; cases h1; exact h.1) (laxP_ok h.2)
      · rename_i hn
        exact key (c := True) (fun cs' e' gr' h1 h2 => by rw [hg] at h1; cases h1; rw [hn] at h2; cases h2) (laxP_ok h)
    · rename_i hg
      exact key (c := True) (fun cs' e' gr' h1 _ => by rw [hg] at h1; cases h1) (laxP_ok h)

theorem rsLookC_ok {lax : List TypeId} {g : Nat → Option AObj} : ∀ (n : Nat) (id : Nat) (cs : List AV) (rd : List Nat), rsLookC lax g n id = some (cs, rd) → (∀ i ∈ id :: rd, LaxAt lax g i) → rsLook g 0 n id = some (cs, rd)
  | 0, _, _, _, h, _ => by simp [rsLookC] at h
  | n + 1, id, cs, rd, h, hl => by
    simp only [rsLookC] at h
    simp only [rsLook]
    split at h
    · rename_i cs0 e gr hg
      split at h
      · rename_i hn
        cases h
        have := hl id (by simp) _ _ _ hg hn
        simp only [hg, tagLe_rsL cs this, this, if_true]
      · split at h
        · rename_i cs' rd' hr
          split at h <;> cases h
          rename_i ht
          have := rsL_local (look' := rsLook g 0 n) _ _ _ hr fun i c r hk hm => rsLookC_ok n i c r hk fun j hj => hl j (List.mem_cons_of_mem _ (hm j hj))
          simp only [hg, this, ht, if_true]
        · cases h
    · cases h

theorem rsLC_ok {lax : List TypeId} {g : Nat → Option AObj} {n : Nat} {as as' : List AV} {rd : List Nat} (h : rsL (rsLookC lax g n) 0 as = some (as', rd)) (hl : ∀ i ∈ rd, LaxAt lax g i) : rsL (rsLook g 0 n) 0 as = some (as', rd) :=
  rsL_local _ _ _ h fun i c r hk hm => rsLookC_ok n i c r hk fun j hj => hl j (hm j hj)

theorem rsAC_ok {lax : List TypeId} {g : Nat → Option AObj} {n : Nat} {a a' : AV} {rd : List Nat} (h : rsA (rsLookC lax g n) 0 a = some (a', rd)) (hl : ∀ i ∈ rd, LaxAt lax g i) : rsA (rsLook g 0 n) 0 a = some (a', rd) :=
  rsA_local _ _ _ h fun i c r hk hm => rsLookC_ok n i c r hk fun j hj => hl j (hm j hj)

/-- What a number of own objects leads to. -/
def refsC (lax : List TypeId) (g : Nat → Option AObj) (i : Nat) : List Nat := match g i with
  | some (.cells cs e gr) => match isLax lax e gr with
    | true => []
    | false => refsL cs
  | none => []

def reachC (lax : List TypeId) (g : Nat → Option AObj) : Nat → List Nat → List Nat → Option (List Nat)
  | _, [], acc => some acc
  | 0, _ :: _, _ => none
  | n + 1, i :: todo, acc => match hasN acc i with
    | true => reachC lax g n todo acc
    | false => reachC lax g n (refsC lax g i ++ todo) (acc ++ [i])

def rnOC (lax : List TypeId) (ρ : Nat → Option Nat) : Option AObj → Option (Option AObj)
  | none => some none
  | some (.cells cs e gr) => match isLax lax e gr with
    | true => some (some (.cells cs e gr))
    | false => match rnL ρ cs with
      | some cs' => some (some (.cells cs' e gr))
      | none => none

def rnOsC (lax : List TypeId) (ρ : Nat → Option Nat) : List (Option AObj) → Option (List (Option AObj))
  | [] => some []
  | o :: os => match rnOC lax ρ o, rnOsC lax ρ os with
    | some o', some os' => some (o' :: os')
    | _, _ => none

/-- What has to hold of objects. -/
def laxOs (lax : List TypeId) : List (Option AObj) → Prop → Prop
  | [], X => X
  | o :: r, X => match o with
    | some (.cells cs e gr) => match isLax lax e gr with
      | true => tagLeL 0 cs = true ∧ laxOs lax r X
      | false => laxOs lax r X
    | none => laxOs lax r X

mutual
theorem refsA_nil {K : Nat} : ∀ (a : AV), tagLe K a = true → refsA a = []
  | .bool _, _ | .int _ _, _ | .str _, _ | .nilp, _ | .nilf, _ | .nili, _ | .any, _ | .lit _ _, _ | .lsl _ _ _ _ _, _ => by simp only [refsA]
  | .ref _ _, h | .rsl _ _ _ _, h => by simp [tagLe] at h
  | .func fn fs cs, h => by
    simp only [tagLe, Bool.and_eq_true] at h
    simp only [refsA, refsL_nil fs h.1, refsL_nil cs h.2, List.append_nil]
  | .iface t v, h => by
    simp only [tagLe] at h
    simp only [refsA, refsA_nil v h]
  | .agg cs, h => by
    simp only [tagLe] at h
    simp only [refsA, refsL_nil cs h]
  | .tup cs, h => by
    simp only [tagLe] at h
    simp only [refsA, refsL_nil cs h]
theorem refsL_nil {K : Nat} : ∀ (as : List AV), tagLeL K as = true → refsL as = []
  | [], _ => by simp only [refsL]
  | a :: as, h => by
    simp only [tagLeL, Bool.and_eq_true] at h
    simp only [refsL, refsA_nil a h.1, refsL_nil as h.2, List.append_nil]
end

mutual
theorem rnA_id {K : Nat} {ρ : Nat → Option Nat} : ∀ (a : AV), tagLe K a = true → rnA ρ a = some a
  | .bool _, _ | .int _ _, _ | .str _, _ | .nilp, _ | .nilf, _ | .nili, _ | .any, _ | .lit _ _, _ | .lsl _ _ _ _ _, _ => by simp only [rnA]
  | .ref _ _, h | .rsl _ _ _ _, h => by simp [tagLe] at h
  | .func fn fs cs, h => by
    simp only [tagLe, Bool.and_eq_true] at h
    simp only [rnA, rnL_id fs h.1, rnL_id cs h.2]
  | .iface t v, h => by
    simp only [tagLe] at h
    simp only [rnA, rnA_id v h]
  | .agg cs, h => by
    simp only [tagLe] at h
    simp only [rnA, rnL_id cs h]
  | .tup cs, h => by
    simp only [tagLe] at h
    simp only [rnA, rnL_id cs h]
theorem rnL_id {K : Nat} {ρ : Nat → Option Nat} : ∀ (as : List AV), tagLeL K as = true → rnL ρ as = some as
  | [], _ => by simp only [rnL]
  | a :: as, h => by
    simp only [tagLeL, Bool.and_eq_true] at h
    simp only [rnL, rnA_id a h.1, rnL_id as h.2]
end

theorem hasN_iff : ∀ {l : List Nat} {i : Nat}, hasN l i = true ↔ i ∈ l
  | [], i => by simp [hasN]
  | k :: r, i => by
    simp only [hasN]
    split
    · rename_i hb
      simp [Nat.eq_of_beq_eq_true hb]
    · rename_i hb
      have := Nat.ne_of_beq_eq_false hb
      rw [hasN_iff]
      simp [Ne.symm this]

theorem reachC_sub {lax : List TypeId} {g : Nat → Option AObj} : ∀ (n : Nat) (todo acc R : List Nat), reachC lax g n todo acc = some R → ∀ i ∈ acc, i ∈ R
  | n, [], acc, R, h => by
    cases n <;> (simp only [reachC, Option.some.injEq] at h; subst h; exact fun _ hi => hi)
  | 0, _ :: _, acc, R, h => by simp [reachC] at h
  | n + 1, i :: todo, acc, R, h => by
    simp only [reachC] at h
    split at h
    · exact reachC_sub n _ _ _ h
    · exact fun j hj => reachC_sub n _ _ _ h j (List.mem_append_left _ hj)

theorem reachC_ok {lax : List TypeId} {g : Nat → Option AObj} : ∀ (n : Nat) (todo acc R : List Nat), reachC lax g n todo acc = some R → (∀ i ∈ R, LaxAt lax g i) → reach g n todo acc = some R
  | n, [], acc, R, h, _ => by
    cases n <;> simpa only [reachC, reach] using h
  | 0, _ :: _, acc, R, h, _ => by simp [reachC] at h
  | n + 1, i :: todo, acc, R, h, hl => by
    simp only [reachC] at h
    simp only [reach]
    have hc : acc.contains i = hasN acc i := by
      rw [Bool.eq_iff_iff, hasN_iff]; simp
    rw [hc]
    cases hh : hasN acc i with
    | true => rw [hh] at h; exact reachC_ok n _ _ _ h hl
    | false =>
      rw [hh] at h
      simp only at h ⊢
      have hi : i ∈ R := reachC_sub n _ _ _ h i (by simp)
      unfold refsC at h
      cases hg : g i with
      | none => rw [hg] at h; exact reachC_ok n _ _ _ (by simpa using h) hl
      | some o =>
        obtain ⟨cs, e, gr⟩ := o
        rw [hg] at h
        simp only at h ⊢
        split at h
        · rename_i hn
          have := hl i hi _ _ _ hg hn
          rw [refsL_nil cs this]
          exact reachC_ok n _ _ _ h hl
        · exact reachC_ok n _ _ _ h hl

theorem rnOC_ok {lax : List TypeId} {ρ : Nat → Option Nat} {o : Option AObj} {o' : Option AObj} (h : rnOC lax ρ o = some o') (hl : ∀ cs e gr, o = some (.cells cs e gr) → isLax lax e gr = true → tagLeL 0 cs = true) : rnO ρ o = some o' := by
  cases o with
  | none => exact h
  | some o =>
    obtain ⟨cs, e, gr⟩ := o
    simp only [rnOC] at h
    simp only [rnO]
    split at h
    · rename_i hn
      cases h
      rw [rnL_id cs (hl _ _ _ rfl hn)]
    · exact h

theorem rnOsC_ok {lax : List TypeId} {ρ : Nat → Option Nat} : ∀ {os os' : List (Option AObj)}, rnOsC lax ρ os = some os' → (∀ o ∈ os, ∀ cs e gr, o = some (.cells cs e gr) → isLax lax e gr = true → tagLeL 0 cs = true) → rnOs ρ os = some os'
  | [], os', h, _ => h
  | o :: os, os', h, hl => by
    simp only [rnOsC] at h
    split at h <;> cases h
    rename_i o' os2 h1 h2
    simp only [rnOs, rnOC_ok h1 (hl o (by simp)), rnOsC_ok h2 fun o ho => hl o (by simp [ho])]

theorem laxOs_ok {lax : List TypeId} {X : Prop} : ∀ {l : List (Option AObj)}, laxOs lax l X → (∀ o ∈ l, ∀ cs e gr, o = some (.cells cs e gr) → isLax lax e gr = true → tagLeL 0 cs = true) ∧ X
  | [], h => ⟨by simp, h⟩
  | o :: r, h => by
    simp only [laxOs] at h
    have key : (∀ cs e gr, o = some (.cells cs e gr) → isLax lax e gr = true → tagLeL 0 cs = true) → laxOs lax r X → (∀ o' ∈ o :: r, ∀ cs e gr, o' = some (.cells cs e gr) → isLax lax e gr = true → tagLeL 0 cs = true) ∧ X := fun h1 h2 => by
      obtain ⟨q1, q2⟩ := laxOs_ok h2
      refine ⟨?_, q2⟩
      intro o' ho
      rcases List.mem_cons.1 ho with rfl | ho
      · exact h1
      · exact q1 o' ho
    split at h
    · split at h
      · exact key (fun cs' e' gr' h1 _ => by cases h1; exact h.1) h.2
      · rename_i hn
        exact key (fun cs' e' gr' h1 h2 => by cases h1; rw [hn] at h2; cases h2) h
    · exact key (fun cs' e' gr' h1 _ => by cases h1) h

theorem lax_map {lax : List TypeId} {g : Nat → Option AObj} {R : List Nat} (h : ∀ i ∈ R, LaxAt lax g i) : ∀ o ∈ R.map g, ∀ cs e gr, o = some (.cells cs e gr) → isLax lax e gr = true → tagLeL 0 cs = true := by
  intro o ho cs e gr he hn
  simp only [List.mem_map] at ho
  obtain ⟨i, hi, rfl⟩ := ho
  exact h i hi cs e gr he hn

/-! what stays where numbers are given anew -/
theorem ExtX.trans {A B C : Ctx} (h : ExtX A B) (k : ExtX B C) : ExtX A C where
  os := k.os.trans h.os
  tape := k.tape.trans h.tape
  output := k.output.trans h.output
  size := Nat.le_trans h.size k.size
  tag := fun j b hb => k.tag j b (h.tag j b hb)
  prot := fun j b hb => (k.prot j b (h.tag j b hb)).trans (h.prot j b hb)
  shp := fun b x hx => k.shp b x (h.shp b x hx)
  snew := fun j b hb => by
    rcases k.snew j b hb with h1 | h1 | ⟨i, h1⟩
    · exact h.snew j b h1
    · exact .inr (.inl (Nat.le_trans h.size h1))
    · rcases h.pnew i b h1 with h2 | ⟨m, h2⟩
      · exact .inr (.inl h2)
      · exact .inr (.inr ⟨m, h2⟩)
  pnew := fun i b hb => by
    rcases k.pnew i b hb with h1 | ⟨j, h1⟩
    · exact .inl (Nat.le_trans h.size h1)
    · exact h.pnew j b h1
  frm := fun b hb hn => (k.frm b (Nat.lt_of_lt_of_le hb h.size) fun id h1 => by
    rcases h.pnew id b h1 with h2 | ⟨m, h2⟩
    · omega
    · exact hn m h2).trans (h.frm b hb hn)

/-- Those numbers under k stay. -/
structure ExtK (k : Nat) (C C' : Ctx) : Prop where
  x : ExtX C C'
  phi : ∀ id b, id < k → C.φ id = some b → C'.φ id = some b

theorem Ext.k {C C' : Ctx} (h : Ext C C') (k : Nat) : ExtK k C C' := ⟨h.x, fun id b _ hb => h.phi id b hb⟩
theorem ExtK.refl (k : Nat) (C : Ctx) : ExtK k C C := (Ext.refl C).k k
theorem ExtK.trans {k : Nat} {A B C : Ctx} (h : ExtK k A B) (h2 : ExtK k B C) : ExtK k A C := ⟨h.x.trans h2.x, fun id b hk hb => h2.phi id b hk (h.phi id b hk hb)⟩
theorem ExtK.full {k : Nat} {C C' : Ctx} (h : ExtK k C C') (hF : Fresh C k) : Ext C C' := ⟨h.x.os, h.x.tape, h.x.output, h.x.size, h.x.tag, h.x.prot, h.x.shp, (fun id b hb => by
  rcases Nat.lt_or_ge id k with hk | hk
  · exact h.phi id b hk hb
  · rw [hF id hk] at hb
    cases hb), h.x.snew, (fun id b hb => .inr (h.x.pnew id b hb)), h.x.frm⟩

def PostK (P : Program) (G : Nat → Option (List AV)) (k : Nat) (C : Ctx) (ae : AExit) (fr : Fr) (σ : St) (e : Exit) (a : Act) (w : World) : Prop :=
  ∃ C' : Ctx, C'.w = w ∧ ExtK k C C' ∧ Rel P G C' fr σ a ∧ ERd P C' ae e

/-- CODE, own objects from k on free to get other numbers. -/
def CodeOkK (P : Program) (G : Nat → Option (List AV)) (k : Nat) (c : Code) (fr : Fr) (σ : St) (ae : AExit) (fr' : Fr) (σ' : St) : Prop :=
  ∀ (C C0 : Ctx) (a : Act), Rel P G C fr σ a → ExtK k C0 C → c.wp P (PostK P G k C0 ae fr' σ') a C.w

theorem CodeOk.k {c : Code} {fr fr' : Fr} {σ σ' : St} {ae : AExit} (h : CodeOk P G c fr σ ae fr' σ') (k : Nat) : CodeOkK P G k c fr σ ae fr' σ' :=
  fun C _ a hR hX => wp_mono (h C C a hR (Ext.refl C)) fun _ _ _ ⟨C', h1, h2, h3, h4⟩ => ⟨C', h1, hX.trans (h2.k k), h3, h4⟩

variable {k : Nat}

theorem codeK_seq {x y : Code} {fr fr1 fr' : Fr} {σ σ1 σ' : St} {ae : AExit} (h : CodeOkK P G k x fr σ .normal fr1 σ1) (h2 : CodeOkK P G k y fr1 σ1 ae fr' σ') : CodeOkK P G k (.seq x y) fr σ ae fr' σ' := by
  intro C C0 a hR hX
  refine wp_seq (wp_mono (h C C0 a hR hX) fun e a1 w1 hp => ?_)
  obtain ⟨C1, hw, hX1, hR1, he⟩ := hp
  subst hw
  simp only [ERd] at he
  subst he
  exact h2 C1 C0 a1 hR1 hX1

theorem codeK_seq_exit {x y : Code} {fr fr' : Fr} {σ σ' : St} {ae : AExit} (h : CodeOkK P G k x fr σ ae fr' σ') (hn : ae ≠ .normal) : CodeOkK P G k (.seq x y) fr σ ae fr' σ' := by
  intro C C0 a hR hX
  refine wp_seq (wp_mono (h C C0 a hR hX) fun e a1 w1 hp => ?_)
  obtain ⟨C1, hw, hX1, hR1, he⟩ := hp
  subst hw
  have : e ≠ .normal := by cases ae <;> simp only [ERd] at he <;> first | exact absurd rfl hn | (subst he; simp) | (obtain ⟨_, rfl, _⟩ := he; simp)
  cases e <;> first | exact absurd rfl this | exact ⟨C1, rfl, hX1, hR1, he⟩

/-- So many rounds of a loop. -/
def LoopNK (P : Program) (G : Nat → Option (List AV)) (k n : Nat) (c : Code) (fr : Fr) (σ : St) (ae : AExit) (fr' : Fr) (σ' : St) : Prop :=
  ∀ (C C0 : Ctx) (a : Act), Rel P G C fr σ a → ExtK k C0 C → Code.rounds P c (PostK P G k C0 ae fr' σ') n a C.w

theorem LoopNK.ok {n : Nat} {c : Code} {fr fr' : Fr} {σ σ' : St} {ae : AExit} (h : LoopNK P G k n c fr σ ae fr' σ') : CodeOkK P G k (.loop c) fr σ ae fr' σ' :=
  fun C C0 a hR hX => wp_loop_rounds n (h C C0 a hR hX)

theorem loopK_next {n : Nat} {c : Code} {fr fr1 fr' : Fr} {σ σ1 σ' : St} {ae : AExit} (h : CodeOkK P G k c fr σ .normal fr1 σ1) (h2 : LoopNK P G k n c fr1 σ1 ae fr' σ') : LoopNK P G k (n + 1) c fr σ ae fr' σ' := by
  intro C C0 a hR hX
  rw [rounds_succ]
  refine wp_mono (h C C0 a hR hX) fun e a1 w1 hp => ?_
  obtain ⟨C1, hw, hX1, hR1, he⟩ := hp
  subst hw
  simp only [ERd] at he
  subst he
  exact h2 C1 C0 a1 hR1 hX1

theorem loopK_end {n : Nat} {c : Code} {fr fr' : Fr} {σ σ' : St} {ae : AExit} (h : CodeOkK P G k c fr σ ae fr' σ') (hn : ae ≠ .normal) : LoopNK P G k (n + 1) c fr σ ae fr' σ' := by
  intro C C0 a hR hX
  rw [rounds_succ]
  refine wp_mono (h C C0 a hR hX) fun e a1 w1 hp => ?_
  obtain ⟨C1, hw, hX1, hR1, he⟩ := hp
  subst hw
  have : e ≠ .normal := by cases ae <;> simp only [ERd] at he <;> first | exact absurd rfl hn | (subst he; simp) | (obtain ⟨_, rfl, _⟩ := he; simp)
  cases e <;> first | exact absurd rfl this | exact ⟨C1, rfl, hX1, hR1, he⟩

/-- A frame of which these temporaries are known. -/
def frTs : Nat → Nat → List (Nat × AV) → List AV
  | _, 0, _ => []
  | i, n + 1, kvs => (match findN kvs i with
    | some v => v
    | none => .any) :: frTs (i + 1) n kvs
def frOf (n : Nat) (kvs : List (Nat × AV)) : Fr := ⟨frTs 0 n kvs, []⟩

def pick (ts : List AV) : List Nat → List AV
  | [] => []
  | k :: ks => ts.getD k .any :: pick ts ks

def pair : List Nat → List AV → List (Nat × AV)
  | k :: ks, v :: vs => (k, v) :: pair ks vs
  | _, _ => []

def hasPre : Nat → Nat → List Nat → Bool
  | _, 0, _ => true
  | i, n + 1, j :: r => match Nat.beq i j with
    | true => hasPre (i + 1) n r
    | false => false
  | _, _ + 1, [] => false

theorem hasPre_get : ∀ {n i : Nat} {R : List Nat}, hasPre i n R = true → ∀ j, j < n → R[j]? = some (i + j)
  | 0, _, _, _, j, hj => by omega
  | n + 1, i, [], h, _, _ => by simp [hasPre] at h
  | n + 1, i, x :: r, h, j, hj => by
    simp only [hasPre] at h
    split at h
    · rename_i hb
      have := Nat.eq_of_beq_eq_true hb
      subst this
      cases j with
      | zero => simp
      | succ j =>
        have := hasPre_get h j (by omega)
        simpa [show i + 1 + j = i + (j + 1) by omega] using this
    · cases h

def baseRefs (lax : List TypeId) (g : Nat → Option AObj) : Nat → List Nat
  | 0 => []
  | n + 1 => baseRefs lax g n ++ refsC lax g n

/-- Temporaries that are kept, and the own objects that they lead to, by new numbers: those under k keep theirs. -/
def canonT (lax : List TypeId) (k : Nat) (keep : List Nat) (ex : List AV) (ts : List AV) (σ : St) (K : (Nat → Option Nat) → List (Nat × AV) → St → Prop) : Prop :=
  match reachC lax σ.g reachFuel (baseRefs lax σ.g k ++ refsL (pick ts keep) ++ refsL ex) (List.range k) with
  | none => False
  | some R => laxP lax σ.g R (match nodupB R && hasPre 0 k R with
    | true => match rnL (fun i => idxIn R i 0) (pick ts keep) with
      | some vs => match rnOsC lax (fun i => idxIn R i 0) (R.map σ.g) with
        | some objs => K (fun i => idxIn R i 0) (pair keep vs) ⟨objs, σ.dep⟩
        | none => False
      | none => False
    | false => False)

theorem rdL_fr {w : World} {S : Nat → Nat → Prop} {φ : Nat → Option Nat} {kvs : List (Nat × AV)} : ∀ (vs : List Value) (i : Nat), (∀ j v u, findN kvs (i + j) = some v → vs[j]? = some u → Rd P w S φ v u) → RdL P w S φ (frTs i vs.length kvs) vs
  | [], _, _ => .nil
  | u :: vs, i, h => by
    simp only [List.length_cons, frTs]
    refine .cons ?_ (rdL_fr vs (i + 1) fun j v x hj hx => h (j + 1) v x (by rwa [show i + (j + 1) = i + 1 + j by omega]) (by simpa using hx))
    cases hk : findN kvs i with
    | none => simp only [Rd]
    | some x => exact h 0 x u (by simpa using hk) (by simp)

theorem findN_pairR {ts : List AV} {ρ : Nat → Option Nat} : ∀ (keep : List Nat) {vs : List AV} {j : Nat} {v : AV}, rnL ρ (pick ts keep) = some vs → findN (pair keep vs) j = some v → rnA ρ (ts.getD j .any) = some v
  | [], vs, j, v, _, h => by simp [pair, findN] at h
  | k :: ks, vs, j, v, hr, h => by
    simp only [pick, rnL] at hr
    split at hr <;> cases hr
    rename_i a' as' h1 h2
    simp only [pair, findN] at h
    split at h
    · rename_i hb
      have := Nat.eq_of_beq_eq_true hb
      subst this
      cases h
      exact h1
    · exact findN_pairR ks h2 h

theorem canonT_ok {lax : List TypeId} {keep : List Nat} {ex : List AV} {fr : Fr} {σ : St} {K : (Nat → Option Nat) → List (Nat × AV) → St → Prop} (h : canonT lax k keep ex fr.tmps σ K) (hd : fr.defs = []) :
    ∃ ρ kvs σ2, K ρ kvs σ2 ∧ ∀ (C : Ctx) (a : Act), Rel P G C fr σ a → ∃ C2 : Ctx, C2.w = C.w ∧ C2.S = C.S ∧ ExtK k C C2 ∧ Rel P G C2 (frOf fr.tmps.length kvs) σ2 a ∧ ∀ id j b, ρ id = some j → C.φ id = some b → C2.φ j = some b := by
  unfold canonT at h
  split at h
  · exact h.elim
  rename_i R hR
  obtain ⟨hl, h⟩ := laxP_ok h
  split at h <;> try exact h.elim
  rename_i hb
  simp only [Bool.and_eq_true] at hb
  obtain ⟨hnd, hpre⟩ := hb
  split at h <;> try exact h.elim
  rename_i vs hvs
  split at h <;> try exact h.elim
  rename_i objs hobjs
  refine ⟨_, _, _, h, fun C a hRel => ?_⟩
  have hobjs := rnOsC_ok hobjs (lax_map hl)
  obtain ⟨hl1, hg1⟩ := rnOs_get hobjs
  let φ1 : Nat → Option Nat := fun j => (R[j]?).bind C.φ
  have hφ1 : ∀ j b, φ1 j = some b → ∃ id, R[j]? = some id ∧ C.φ id = some b := by
    intro j b hb
    simp only [φ1] at hb
    cases hr : R[j]? with
    | none => simp [hr] at hb
    | some id => rw [hr] at hb; exact ⟨id, rfl, hb⟩
  have hρ : ∀ id j b, idxIn R id 0 = some j → C.φ id = some b → φ1 j = some b := by
    intro id j b hi hb
    obtain ⟨_, h2⟩ := idxIn_get hi
    rw [Nat.sub_zero] at h2
    simp only [φ1, h2, Option.bind_some, hb]
  let C2 : Ctx := ⟨C.w, C.S, φ1⟩
  have hobj1 : ∀ j o, (⟨objs, σ.dep⟩ : St).g j = some o → ∃ id o0, R[j]? = some id ∧ σ.g id = some o0 ∧ rnO (fun i => idxIn R i 0) (some o0) = some (some o) := by
    intro j o hj
    simp only [St.g] at hj
    split at hj
    · rename_i x hx
      subst hj
      obtain ⟨o0, h1, h2⟩ := hg1 j _ hx
      simp only [List.getElem?_map, Option.map_eq_some_iff] at h1
      obtain ⟨id, h3, h4⟩ := h1
      cases o0 with
      | none => simp [rnO] at h2
      | some o0 => exact ⟨id, o0, h3, h4, h2⟩
    · cases hj
  refine ⟨C2, rfl, rfl, ⟨⟨rfl, rfl, rfl, Nat.le_refl _, fun _ _ h => h, fun _ _ _ => rfl, fun _ _ h => h, fun _ _ h => .inl h, fun j b hb => ?_, fun _ _ _ => rfl⟩, fun id b hk hb => ?_⟩, ⟨⟨hRel.inv.lt, hRel.inv.dep, ?_, ?_, hRel.inv.glob⟩, ?_, ?_, ?_⟩, hρ⟩
  · obtain ⟨id, _, h2⟩ := hφ1 j b hb
    exact .inr ⟨id, h2⟩
  · have := hasPre_get hpre id hk
    rw [Nat.zero_add] at this
    simp only [C2, φ1, this, Option.bind_some, hb]
  · intro j o hj
    obtain ⟨id, o0, h1, h2, h3⟩ := hobj1 j o hj
    obtain ⟨b, q1, q2, q3⟩ := hRel.inv.obj id o0 h2
    exact ⟨b, by simp only [C2, φ1, h1, Option.bind_some, q1], q2, rnO_rd hρ h3 q3⟩
  · intro i j b oi oj hi hj hbi hbj
    obtain ⟨id, o0, h1, h2, _⟩ := hobj1 i oi hi
    obtain ⟨id', o0', h1', h2', _⟩ := hobj1 j oj hj
    simp only [C2, φ1, h1, Option.bind_some] at hbi
    simp only [C2, φ1, h1', Option.bind_some] at hbj
    have := hRel.inv.inj id id' b o0 o0' h2 h2' hbi hbj
    subst this
    exact nodupB_get hnd i j id h1 h1'
  · intro j hj
    simp only [hl1, List.length_map] at hj
    simp only [C2, φ1, List.getElem?_eq_none hj, Option.bind_none]
  · have hlen := hRel.tmps.length
    simp only [frOf, hlen]
    refine rdL_fr _ _ fun j v u hj hu => ?_
    have hv := findN_pairR keep hvs hj
    have hu' : (fr.tmps.getD (0 + j) .any) = fr.tmps.getD j .any := by rw [Nat.zero_add]
    cases ht : fr.tmps[j]? with
    | none =>
      have h1 : fr.tmps.length ≤ j := List.getElem?_eq_none_iff.1 ht
      rw [List.getElem?_eq_none (by omega)] at hu; cases hu
    | some x =>
      obtain ⟨y, hy, hr⟩ := hRel.tmps.get ht
      rw [hu] at hy; cases hy
      rw [hu', List.getD_eq_getElem?_getD, ht] at hv
      exact rnA_rd hρ _ _ _ hv hr
  · have := hRel.defs
    rw [hd] at this
    exact this

def CallP (P : Program) (G : Nat → Option (List AV)) (n : Nat) (f : FuncId) (args : List AV) (σ : St) (out : AOut) (σ' : St) : Prop :=
  match n with
  | 2 => CallOk P G f args σ out σ'
  | _ => XferOk P G f args σ out σ'

theorem CallP.of {n : Nat} {f : FuncId} {args : List AV} {σ σ' : St} {out : AOut} (h : CallOk P G f args σ out σ') : CallP P G n f args σ out σ' := by
  unfold CallP
  split
  · exact h
  · exact h.xfer

section
variable (P : Program) (E : Env) (ia : IAsk)

/-- What answers a call. -/
def ansT (sh : Sh (AOut × St)) (f : FuncId) (a' : List AV) (s0 : St) (K : AOut → St → Prop) : Prop :=
  match ia f with
  | some F => F a' s0 K
  | none => match E.pol f with
    | 2 => sh.any fun r => CallOk P E.G f a' s0 r.1 r.2 ∧ K r.1 r.2
    | _ => sh.any fun r => XferOk P E.G f a' s0 r.1 r.2 ∧ K r.1 r.2

def reOut (v : AV) : AOut → AOut
  | .ret _ => .ret v
  | .panic _ => .panic v

abbrev CallK := AOut → List (Nat × Option AObj) → List Nat → Nat → Prop

/-- A call that is given data for good, and gives data. -/
def giveT (lax : List TypeId) (sh : Sh (AOut × St)) (f : FuncId) (args : List AV) (g : Nat → Option AObj) (dep : Nat) (K : CallK) : Prop :=
  match rsL (rsLookC lax g rsDepth) 0 args with
  | none => False
  | some (a', rd) => laxP lax g rd (ansT P E ia sh f a' ⟨[], dep⟩ fun out σ1 => match Nat.beq σ1.dep dep with
    | true => match rsA (rsLook σ1.g 0 rsDepth) 0 out.val with
      | some (v, _) => match tagLe 0 v with
        | true => K (reOut v out) (rd.map fun i => (i, none)) rd 0
        | false => False
      | none => False
    | false => False)

/-- A call that takes over own objects, and gives others back. -/
def ownT (lax : List TypeId) (sh : Sh (AOut × St)) (f : FuncId) (args : List AV) (g : Nat → Option AObj) (h dep : Nat) (K : CallK) : Prop :=
  match reachC lax g reachFuel (refsL args) [] with
  | none => False
  | some R => laxP lax g R (match nodupB R && R.all (fun i => (g i).isSome) with
    | true => match rnL (fun i => idxIn R i 0) args with
      | some args' => match rnOsC lax (fun i => idxIn R i 0) (R.map g) with
        | some objs => ansT P E ia sh f args' ⟨objs, dep⟩ fun out σ1 => match Nat.beq σ1.dep dep with
          | true => laxOs lax σ1.objs (match AOut.map (rnA fun i => some (h + i)) out with
            | some out' => match rnOsC lax (fun i => some (h + i)) σ1.objs with
              | some objs' => K out' (R.map (fun i => (i, none)) ++ (List.range objs'.length).map (fun k => (h + k, (objs'[k]?).getD none))) R objs'.length
              | none => False
            | none => False)
          | false => False
        | none => False
      | none => False
    | false => False)

/-- A call that borrows own objects. -/
def borT (lax : List TypeId) (sh : Sh (AOut × St)) (f : FuncId) (args : List AV) (g : Nat → Option AObj) (h dep : Nat) (K : CallK) : Prop :=
  match reachC lax g reachFuel (refsL args) [] with
  | none => False
  | some R => laxP lax g R (match nodupB R && R.all (fun i => (g i).isSome && decide (i < h)) with
    | true => match rnL (fun i => idxIn R i 0) args with
      | some args' => match rnOsC lax (fun i => idxIn R i 0) (R.map g) with
        | some objs => ansT P E ia sh f args' ⟨objs, dep⟩ fun out σ1 => match Nat.beq σ1.dep dep with
          | true => laxOs lax σ1.objs (match AOut.map (rnA (backN R h)) out with
            | some out' => match rnOsC lax (backN R h) σ1.objs with
              | some objs' => match Nat.ble R.length objs'.length with
                | true => K out' ((R ++ List.range' h (objs'.length - R.length)).map (fun i => (i, backV R h objs' i))) R (objs'.length - R.length)
                | false => False
              | none => False
            | none => False)
          | false => False
        | none => False
      | none => False
    | false => False)

def anyT (lax : List TypeId) (sh : Sh (AOut × St)) (f : FuncId) (args : List AV) (g : Nat → Option AObj) (h dep : Nat) (K : CallK) : Prop :=
  match E.pol f with
  | 0 => giveT P E ia lax sh f args g dep K
  | 2 => borT P E ia lax sh f args g h dep K
  | _ => ownT P E ia lax sh f args g h dep K

/-- What a function gives, as its types tell. -/
def shOut (f : FuncId) : Sh (AOut × St) := match E.fb f with
  | some fn => shVals E.T fn.resultTypes.toList fun vs => .one (.ret (oneOrTup vs), ⟨[], 0⟩)
  | none => .one (.ret .undef, ⟨[], 0⟩)

def shOf (sh0 : List (FuncId × Sh (AOut × St))) (f : FuncId) : Option (Sh (AOut × St)) → Sh (AOut × St)
  | some s => s
  | none => match findN sh0 f with
    | some s => s
    | none => shOut E f

/-- A slice that is turned into data at once. -/
def fzT (v : AV) (σ : St) (K : AV → St → Prop) : Prop :=
  match v with
  | .rsl id 0 n (some c) => match σ.g id with
    | some (.cells cs _ _) => match tagLeL 0 cs with
      | true => match σ.app 0 [(id, none)] with
        | some σ2 => K (.lsl false 0 cs n (some c)) σ2
        | none => False
      | false => False
    | none => False
  | _ => False

/-- .. whose cells are known in part. -/
def fwT (v : AV) (σ : St) (K : AV → St → Prop) : Prop :=
  match v with
  | .rsl id 0 n (some c) => match σ.g id with
    | some (.cells cs _ _) => tagLeL 0 cs = true ∧ match σ.app 0 [(id, none)] with
        | some σ2 => K (.lsl false 0 cs n (some c)) σ2
        | none => False
    | none => False
  | _ => False

theorem fwT_fz {v : AV} {σ : St} {K : AV → St → Prop} (h : fwT v σ K) : fzT v σ K := by
  unfold fwT at h
  unfold fzT
  split at h <;> try exact h.elim
  split at h <;> try exact h.elim
  rename_i hg
  simp only [hg, h.1]
  exact h.2

def opS (lax : List TypeId) (sh0 : List (FuncId × Sh (AOut × St))) (kd : Option Kd) (sh : Option (Sh (AOut × St))) (o : Oper) (fr : Fr) (σ : St) (K : AExit → Fr → St → Prop) : Prop :=
  match o.op with
  | .call { callee := .value f, args, .. } => match aeval E.G fr f, argsM (aeval E.G fr) args.toList with
    | some (.func (.func k) fs cs), some as => match E.T.fnk k with
      | true => anyT P E ia lax (shOf E sh0 k sh) k (fs ++ as ++ cs) σ.g σ.objs.length σ.dep fun out ups _ m => match σ.app m ups with
        | some σ' => match out with
          | .ret v => K .normal (fr.put o.dst v) σ'
          | .panic v => K (.panic v) fr σ'
        | none => False
      | false => False
    | _, _ => False
  | .panic _ => match runOp E.T E.G E.pol (fun _ _ _ => none) o fr σ with
      | some (ae, fr', σ', ps) => AndP ps (K ae fr' σ')
      | none => False
  | .defer _ => match runOp E.T E.G E.pol (fun _ _ _ => none) o fr σ with
      | some (ae, fr', σ', ps) => AndP ps (K ae fr' σ')
      | none => False
  | op => effT E.T (aeval E.G fr) σ.g σ.objs.length kd op fun e => match σ.app e.m e.ups with
    | some σ' => match kd with
      | some .fz => fzT e.v σ' fun v σ2 => K .normal (fr.put o.dst v) σ2
      | some .fw => fwT e.v σ' fun v σ2 => K .normal (fr.put o.dst v) σ2
      | _ => K .normal (fr.put o.dst e.v) σ'
    | none => False

def locS (lax : List TypeId) (sh0 : List (FuncId × Sh (AOut × St))) (kd : Option Kd) (sh : Option (Sh (AOut × St))) (o : Oper) (fr : Fr) (σ : St) (K : Eff → List Prop → Prop) : Prop :=
  match o.op with
  | .call { callee := .value f, args, .. } => match aeval E.G fr f, argsM (aeval E.G fr) args.toList with
    | some (.func (.func k) fs cs), some as => match E.T.fnk k with
      | true => anyT P E ia lax (shOf E sh0 k sh) k (fs ++ as ++ cs) σ.g σ.objs.length σ.dep fun out ups rds m => match out with
        | .ret v => K ⟨v, ups, rds, m⟩ [σ.dep = σ.dep]
        | .panic _ => False
      | false => False
    | _, _ => False
  | .panic _ => False
  | .defer _ => False
  | op => effT E.T (aeval E.G fr) σ.g σ.objs.length kd op fun e => K e []

def seqS (lax : List TypeId) (sh0 : List (FuncId × Sh (AOut × St))) (kds : List (Nat × Kd)) (shs : List (Nat × Sh (AOut × St))) (ops : Array Oper) : List Nat → Fr → St → (AExit → Fr → St → Prop) → Prop
  | [], fr, σ, K => K .normal fr σ
  | i :: rest, fr, σ, K => match ops[i]? with
    | none => False
    | some o => match wantedA ops fr o with
      | none => False
      | some true => opS P E ia lax sh0 (findN kds i) (findN shs i) o fr σ fun ae fr' σ' => match ae with
        | .normal => seqS lax sh0 kds shs ops rest fr' σ' K
        | ae => K ae fr' σ'
      | some false => seqS lax sh0 kds shs ops rest (fr.put o.dst .undef) σ K

def drawS (lax : List TypeId) (sh0 : List (FuncId × Sh (AOut × St))) (kds : List (Nat × Kd)) (shs : List (Nat × Sh (AOut × St))) (ops : Array Oper) : List Nat → Fr → St → (List Rec → Fr → St → Prop) → Prop
  | [], fr, σ, K => K [] fr σ
  | i :: rest, fr, σ, K => match ops[i]? with
    | none => False
    | some o => match wantedA ops fr o with
      | none => False
      | some true => locS P E ia lax sh0 (findN kds i) (findN shs i) o fr σ fun e ps => match σ.app e.m e.ups with
        | none => False
        | some σ' => drawS lax sh0 kds shs ops rest (fr.put o.dst e.v) σ' fun rs fr2 σ2 => K (⟨true, e.v, e.ups, e.rds, e.m, σ.objs.length, ps⟩ :: rs) fr2 σ2
      | some false => drawS lax sh0 kds shs ops rest (fr.put o.dst .undef) σ fun rs fr2 σ2 => K (⟨false, .undef, [], [], 0, σ.objs.length, []⟩ :: rs) fr2 σ2

def listOf {α : Type} : Option (List α) → List α
  | some l => l
  | none => []

def rgS (sc : Sc) (rid : Nat) (ops : Array Oper) (draw : Bool) (fr : Fr) (σ : St) (K : AExit → Fr → St → Prop) : Prop :=
  match draw with
  | false => seqS P E ia sc.lax sc.shs (listOf (findN sc.ops rid)) (listOf (findN sc.calls rid)) ops (List.range ops.size) fr σ K
  | true => drawS P E ia sc.lax sc.shs (listOf (findN sc.ops rid)) (listOf (findN sc.calls rid)) ops (List.range ops.size) fr σ fun recs fr' σ' => match drawOk ops recs && Region.noSelect ops with
    | true => K .normal fr' σ'
    | false => False

def roundsT (run : Fr → St → (AExit → Fr → St → Prop) → Prop) : Nat → Fr → St → (AExit → Fr → St → Prop) → Prop
  | 0, _, _, _ => False
  | n + 1, fr, σ, K => run fr σ fun ae fr' σ' => match ae with
    | .normal => roundsT run n fr' σ' K
    | ae => K ae fr' σ'

def evt (k : Nat) (sc : Sc) : Code → Nat → Fr → St → (AExit → Fr → St → Prop) → Prop
  | .skip, _, fr, σ, K => K .normal fr σ
  | .label _, _, fr, σ, K => K .normal fr σ
  | .exit id, _, fr, σ, K => K (.exit id) fr σ
  | .goto l, _, fr, σ, K => K (.goto l) fr σ
  | .ret, _, fr, σ, K => K .ret fr σ
  | .region rid ops draw, _, fr, σ, K => rgS P E ia sc rid ops draw fr σ K
  | .seq x y, bid, fr, σ, K => evt k sc x bid fr σ fun ae fr' σ' => match ae with
    | .normal => evt k sc y bid fr' σ' K
    | ae => K ae fr' σ'
  | .cond c x y, bid, fr, σ, K => match aeval E.G fr c with
    | some (.bool v) => br v (evt k sc x bid fr σ K) (evt k sc y bid fr σ K)
    | _ => False
  | .block id c, _, fr, σ, K => evt k sc c id fr σ fun ae fr' σ' => match ae with
    | .exit id' => match Nat.beq id' id with
      | true => K .normal fr' σ'
      | false => K (.exit id') fr' σ'
    | ae => K ae fr' σ'
  | .loop c, bid, fr, σ, K => match findN sc.loops bid with
    | some (.inv keep s) => match fr.defs with
      | [] => canonT sc.lax k keep [] fr.tmps σ fun _ kvs σ0 => (s (kvs.map Prod.snd) σ0).any fun r => CodeOkK P E.G k (.loop c) (frOf fr.tmps.length kvs) σ0 r.1 (frOf fr.tmps.length r.2.1) r.2.2 ∧ K r.1 (frOf fr.tmps.length r.2.1) r.2.2
      | _ :: _ => False
    | some (.unroll n) => roundsT (evt k sc c bid) n fr σ K
    | none => False
  | _, _, _, _, _ => False
end

/-! it holds what it says -/
open Classical in
/-- Who answers just this. -/
noncomputable def ask1 (f : FuncId) (a : List AV) (s : St) (out : AOut) (σ1 : St) : Ask := fun f' a' s' => if f' = f ∧ a' = a ∧ s' = s then some (out, σ1, []) else none

theorem ask1_is {f f' : FuncId} {a a' : List AV} {s s' σ1 σ' : St} {out out' : AOut} {ps : List Prop} (h : ask1 f a s out σ1 f' a' s' = some (out', σ', ps)) : f' = f ∧ a' = a ∧ s' = s ∧ out' = out ∧ σ' = σ1 := by
  unfold ask1 at h
  split at h
  · rename_i h3
    simp only [Option.some.injEq, Prod.mk.injEq] at h
    exact ⟨h3.1, h3.2.1, h3.2.2, h.1.symm, h.2.1.symm⟩
  · cases h

theorem ask1_ok {pol : FuncId → Nat} {f : FuncId} {a : List AV} {s σ1 : St} {out : AOut} (h : CallP P G (pol f) f a s out σ1) : AskOk2 P G pol (ask1 f a s out σ1) where
  x := by
    intro f' a' s' out' σ' ps hh _
    obtain ⟨h1, h2, h3, h4, h5⟩ := ask1_is hh
    rw [h1, h2, h3, h4, h5]
    unfold CallP at h
    split at h
    · exact h.xfer
    · exact h
  b := by
    intro f' hf a' s' out' σ' ps hh _
    obtain ⟨h1, h2, h3, h4, h5⟩ := ask1_is hh
    rw [h1] at hf
    rw [h1, h2, h3, h4, h5]
    rw [hf] at h
    exact h

theorem ask1_at {f : FuncId} {a : List AV} {s σ1 : St} {out : AOut} : ask1 f a s out σ1 f a s = some (out, σ1, []) := by
  simp [ask1]

def IAskOk (P : Program) (G : Nat → Option (List AV)) (ia : IAsk) : Prop := ∀ f F, ia f = some F → ∀ args σ K, F args σ K → ∃ out σ', K out σ' ∧ CallOk P G f args σ out σ'

variable {E : Env} {ia : IAsk}

theorem ansT_ok (hi : IAskOk P E.G ia) {sh : Sh (AOut × St)} {f : FuncId} {a' : List AV} {s0 : St} {K : AOut → St → Prop} (h : ansT P E ia sh f a' s0 K) :
    ∃ out σ1, CallP P E.G (E.pol f) f a' s0 out σ1 ∧ K out σ1 := by
  unfold ansT at h
  split at h
  · rename_i F hF
    obtain ⟨out, σ', hk, hc⟩ := hi f F hF _ _ _ h
    exact ⟨out, σ', .of hc, hk⟩
  · split at h
    · rename_i h2
      obtain ⟨⟨out, σ1⟩, h1, hk⟩ := Sh.any_ok _ h
      exact ⟨out, σ1, by rw [h2]; exact h1, hk⟩
    · rename_i h2
      obtain ⟨⟨out, σ1⟩, h1, hk⟩ := Sh.any_ok _ h
      refine ⟨out, σ1, ?_, hk⟩
      unfold CallP
      split
      · exact absurd ‹_› h2
      · exact h1

theorem giveT_ok (hi : IAskOk P E.G ia) {lax : List TypeId} {sh : Sh (AOut × St)} {f : FuncId} {args : List AV} {g : Nat → Option AObj} {dep : Nat} {K : CallK} (h : giveT P E ia lax sh f args g dep K) :
    ∃ (ask : Ask) (out : AOut) (rd : List Nat), AskOk2 P E.G E.pol ask ∧ giveCall ask f args g dep = some ⟨out, rd, [dep = dep]⟩ ∧ K out (rd.map fun i => (i, none)) rd 0 := by
  unfold giveT at h
  split at h
  · exact h.elim
  rename_i a' rd hr
  obtain ⟨hl, h⟩ := laxP_ok h
  obtain ⟨out, σ1, hc, hk⟩ := ansT_ok hi h
  split at hk <;> try exact hk.elim
  rename_i hd
  have hd := Nat.eq_of_beq_eq_true hd
  split at hk <;> try exact hk.elim
  rename_i v rd2 hv
  split at hk <;> try exact hk.elim
  rename_i ht
  refine ⟨ask1 f a' ⟨[], dep⟩ out σ1, _, rd, ask1_ok hc, ?_, hk⟩
  unfold giveCall
  rw [rsLC_ok hr hl]
  simp only [ask1_at, hv, ht, if_true, hd]
  cases out <;> rfl

theorem ownT_ok (hi : IAskOk P E.G ia) {lax : List TypeId} {sh : Sh (AOut × St)} {f : FuncId} {args : List AV} {g : Nat → Option AObj} {hd dep : Nat} {K : CallK} (h : ownT P E ia lax sh f args g hd dep K) :
    ∃ (ask : Ask) (out : AOut) (ups : List (Nat × Option AObj)) (rd : List Nat) (m : Nat), AskOk2 P E.G E.pol ask ∧ ownCall ask f args g hd dep = some ⟨out, ups, rd, m, [dep = dep]⟩ ∧ K out ups rd m := by
  unfold ownT at h
  split at h
  · exact h.elim
  rename_i R hR
  obtain ⟨hl, h⟩ := laxP_ok h
  split at h <;> try exact h.elim
  rename_i hb
  split at h <;> try exact h.elim
  rename_i args' ha
  split at h <;> try exact h.elim
  rename_i objs ho
  obtain ⟨out, σ1, hc, hk⟩ := ansT_ok hi h
  split at hk <;> try exact hk.elim
  rename_i hdp
  have hdp := Nat.eq_of_beq_eq_true hdp
  obtain ⟨hl2, hk⟩ := laxOs_ok hk
  split at hk <;> try exact hk.elim
  rename_i out' hout
  split at hk <;> try exact hk.elim
  rename_i objs' hobjs'
  refine ⟨ask1 f args' ⟨objs, dep⟩ out σ1, _, _, _, _, ask1_ok hc, ?_, hk⟩
  unfold ownCall
  rw [reachC_ok _ _ _ _ hR hl]
  simp only [hb, ha, rnOsC_ok ho (lax_map hl), ask1_at, hout, rnOsC_ok hobjs' hl2, hdp]

theorem borT_ok (hi : IAskOk P E.G ia) {lax : List TypeId} {sh : Sh (AOut × St)} {f : FuncId} {args : List AV} {g : Nat → Option AObj} {hd dep : Nat} {K : CallK} (h : borT P E ia lax sh f args g hd dep K) :
    ∃ (ask : Ask) (out : AOut) (ups : List (Nat × Option AObj)) (rd : List Nat) (m : Nat), AskOk2 P E.G E.pol ask ∧ borrowCall ask f args g hd dep = some ⟨out, ups, rd, m, [dep = dep]⟩ ∧ K out ups rd m := by
  unfold borT at h
  split at h
  · exact h.elim
  rename_i R hR
  obtain ⟨hl, h⟩ := laxP_ok h
  split at h <;> try exact h.elim
  rename_i hb
  split at h <;> try exact h.elim
  rename_i args' ha
  split at h <;> try exact h.elim
  rename_i objs ho
  obtain ⟨out, σ1, hc, hk⟩ := ansT_ok hi h
  split at hk <;> try exact hk.elim
  rename_i hdp
  have hdp := Nat.eq_of_beq_eq_true hdp
  obtain ⟨hl2, hk⟩ := laxOs_ok hk
  split at hk <;> try exact hk.elim
  rename_i out' hout
  split at hk <;> try exact hk.elim
  rename_i objs' hobjs'
  split at hk <;> try exact hk.elim
  rename_i hle
  refine ⟨ask1 f args' ⟨objs, dep⟩ out σ1, _, _, _, _, ask1_ok hc, ?_, hk⟩
  unfold borrowCall
  rw [reachC_ok _ _ _ _ hR hl]
  simp only [hb, ha, rnOsC_ok ho (lax_map hl), ask1_at, hout, rnOsC_ok hobjs' hl2, hdp, if_pos (Nat.le_of_ble_eq_true hle)]

theorem anyT_ok (hi : IAskOk P E.G ia) {lax : List TypeId} {sh : Sh (AOut × St)} {f : FuncId} {args : List AV} {g : Nat → Option AObj} {hd dep : Nat} {K : CallK} (h : anyT P E ia lax sh f args g hd dep K) :
    ∃ (ask : Ask) (out : AOut) (ups : List (Nat × Option AObj)) (rd : List Nat) (m : Nat), AskOk2 P E.G E.pol ask ∧ K out ups rd m ∧
      (match E.pol f with
        | 0 => giveCall ask f args g dep = some ⟨out, rd, [dep = dep]⟩ ∧ ups = rd.map (fun i => (i, none)) ∧ m = 0
        | 2 => borrowCall ask f args g hd dep = some ⟨out, ups, rd, m, [dep = dep]⟩
        | _ => ownCall ask f args g hd dep = some ⟨out, ups, rd, m, [dep = dep]⟩) := by
  unfold anyT at h
  split at h
  · obtain ⟨ask, out, rd, h1, h2, h3⟩ := giveT_ok hi h
    exact ⟨ask, out, _, rd, 0, h1, h3, h2, rfl, rfl⟩
  · obtain ⟨ask, out, ups, rd, m, h1, h2, h3⟩ := borT_ok hi h
    exact ⟨ask, out, ups, rd, m, h1, h3, h2⟩
  · obtain ⟨ask, out, ups, rd, m, h1, h2, h3⟩ := ownT_ok hi h
    exact ⟨ask, out, ups, rd, m, h1, h3, h2⟩

theorem askNone_ok {pol : FuncId → Nat} : AskOk2 P G pol (fun _ _ _ => none) := ⟨fun _ _ _ _ _ _ h => by (cases h), fun _ _ _ _ _ _ _ h => by (cases h)⟩

/-- A slice turned into data. -/
theorem fzT_ok {v : AV} {σ : St} {K : AV → St → Prop} (h : fzT v σ K) : ∃ v' σ', K v' σ' ∧ ∀ (k : Nat) (C : Ctx) (fr : Fr) (dst : Option Tmp) (a : Act), Rel P G C (fr.put dst v) σ a → ∃ C2 : Ctx, C2.w = C.w ∧ ExtK k C C2 ∧ Rel P G C2 (fr.put dst v') σ' a := by
  unfold fzT at h
  split at h <;> try exact h.elim
  rename_i id n c
  split at h <;> try exact h.elim
  rename_i cs el gr hg
  split at h <;> try exact h.elim
  rename_i ht
  split at h <;> try exact h.elim
  rename_i σ2 happ
  obtain ⟨ha1, ha2, ha3⟩ := St.app_spec happ
  refine ⟨_, _, h, fun k C fr dst a hR => ?_⟩
  obtain ⟨b, hb, hnb, ho⟩ := hR.inv.obj id _ hg
  let S2 : Nat → Nat → Prop := fun j x => C.S j x ∨ (j = 0 ∧ x = b)
  have hS2 : ∀ j x, C.S j x → S2 j x := fun _ _ h => .inl h
  let C2 : Ctx := ⟨C.w, S2, C.φ⟩
  have hk2 : Keeps C.w C2.w C.S S2 C.φ C2.φ := ⟨hS2, fun _ _ _ _ _ h => h, fun _ _ _ _ h => h, fun _ _ h => h⟩
  have hin : Keeps C.w C2.w C.S S2 noId noId := ⟨hS2, fun _ _ _ _ _ h => h, fun _ _ _ _ h => h, fun _ _ h => h⟩
  have hσg : ∀ i o, σ2.g i = some o → i ≠ id ∧ σ.g i = some o := by
    intro i o hi
    rw [ha1] at hi
    simp only [applyUps] at hi
    by_cases e : i = id
    · subst e; simp at hi
    · exact ⟨e, by rwa [upd_other _ _ e] at hi⟩
  refine ⟨C2, rfl, ⟨⟨rfl, rfl, rfl, Nat.le_refl _, hS2, fun _ _ _ => rfl, fun _ _ h => h, ?_, fun i x hx => .inr ⟨i, hx⟩, fun _ _ _ => rfl⟩, fun _ _ _ h => h⟩, ⟨⟨?_, ?_, ?_, ?_, ?_⟩, ?_, ?_, ?_⟩⟩
  · rintro j x (h | ⟨_, rfl⟩)
    · exact .inl h
    · exact .inr (.inr ⟨id, hb⟩)
  · rintro j x (h | ⟨_, rfl⟩)
    · exact hR.inv.lt j x h
    · exact ho.lt
  · rintro j x (h | ⟨rfl, _⟩)
    · rw [ha2]; exact hR.inv.dep j x h
    · exact Nat.zero_le _
  · intro i o hi
    obtain ⟨hne, hi'⟩ := hσg i o hi
    obtain ⟨b2, q1, q2, q3⟩ := hR.inv.obj i o hi'
    refine ⟨b2, q1, ?_, ?_⟩
    · rintro j (h | ⟨_, rfl⟩)
      · exact q2 j h
      · exact hne (hR.inv.inj i id b2 o _ hi' hg q1 hb)
    · cases o with
      | cells cs2 e2 gr2 =>
        obtain ⟨arr, fz, r1, r2, r3, r4, r5, r6⟩ := q3
        exact ⟨arr, fz, r1, r2, r3, r4, r5.keep hk2, r6⟩
  · intro i j x oi oj hi hj hbi hbj
    exact hR.inv.inj i j x oi oj (hσg i oi hi).2 (hσg j oj hj).2 hbi hbj
  · intro m cs2 hm
    obtain ⟨h1, h2⟩ := hR.inv.glob m cs2 hm
    exact ⟨hS2 _ _ h1, h2.keep (hin.inner 0) ⟨0, Nat.le_refl _, h1⟩⟩
  · intro i hi
    rw [ha3] at hi
    exact hR.fresh i (by omega)
  · have ht0 := hR.tmps
    have hval : ∀ u, Rd P C.w C.S C.φ (.rsl id 0 n (some c)) u → Rd P C2.w C2.S C2.φ (.lsl false 0 cs n (some c)) u := by
      intro u hu
      simp only [Rd, Bool.false_eq_true, if_false] at hu ⊢
      obtain ⟨b', c', q1, rfl, q2, q3⟩ := hu
      rw [hb] at q1; cases q1
      refine .inl ⟨b, 0, c', rfl, .inr ⟨rfl, rfl⟩, ?_, q2, fun m hm => by cases hm; exact q3⟩
      have hat := ho.at 0
      rw [List.drop_zero] at hat
      refine .mk fun i x hx => ?_
      obtain ⟨h1, v, h2, h3⟩ := hat.get hx
      exact ⟨h1, v, h2, (Rd.tagged (φ' := noId) x v h3 (tagLeL_mem ht x (List.mem_of_getElem? hx))).keep ⟨fun j c hj => ⟨hj.1, hS2 _ _ hj.2⟩, fun _ _ _ _ _ h => h, (fun _ _ _ hn _ => by cases hn), (fun _ _ hn => by cases hn)⟩⟩
    cases dst with
    | none => exact ht0.keep hk2
    | some d =>
      simp only [Fr.put] at ht0 ⊢
      refine .mk ?_ fun i x u hx hu => ?_
      · have := ht0.length
        simpa using this
      · rw [List.getElem?_set] at hx
        by_cases e : d = i
        · subst e
          simp only [if_true] at hx
          split at hx <;> cases hx
          rename_i hlt
          have h1 : (fr.tmps.set d (AV.rsl id 0 n (some c)))[d]? = some (.rsl id 0 n (some c)) := by simp [hlt]
          obtain ⟨y, hy, hr⟩ := ht0.get h1
          rw [hu] at hy; cases hy
          exact hval _ hr
        · simp only [e, if_false] at hx
          have h1 : (fr.tmps.set d (AV.rsl id 0 n (some c)))[i]? = some x := by simp [List.getElem?_set, e, hx]
          obtain ⟨y, hy, hr⟩ := ht0.get h1
          rw [hu] at hy; cases hy
          exact hr.keep hk2
  · have hd0 := hR.defs
    have : ∀ (ds : List ADef) (l : List Deferred), RdD P C ds l → RdD P C2 ds l := by
      intro ds
      induction ds with
      | nil => intro l h; simpa only [RdD] using h
      | cons d ds ih =>
        intro l h
        simp only [RdD] at h ⊢
        obtain ⟨vs, ws, r, rfl, h1, h2, h3⟩ := h
        exact ⟨vs, ws, r, rfl, h1.keep hk2, h2.keep hk2, ih r h3⟩
    have e1 : (fr.put dst (AV.rsl id 0 n (some c))).defs = (fr.put dst (.lsl false 0 cs n (some c))).defs := by cases dst <;> rfl
    rw [← e1]
    exact this _ _ hd0

def OpOk (P : Program) (G : Nat → Option (List AV)) (k : Nat) (o : Oper) (fr : Fr) (σ : St) (ae : AExit) (fr' : Fr) (σ' : St) : Prop :=
  ∀ (C C0 : Ctx) (a : Act) (K : Act → World → Prop) (Q : Exit → Act → World → Prop), Rel P G C fr σ a → ExtK k C0 C →
    (∀ C' a', ae = .normal → ExtK k C0 C' → Rel P G C' fr' σ' a' → K a' C'.w) →
    (∀ C' e, ae ≠ .normal → ExtK k C0 C' → Rel P G C' fr' σ' a → ERd P C' ae e → Q e a C'.w) → o.wp P a C.w K Q

theorem OpOk.of (hE : E.Ok P) {ask : Ask} (hc : AskOk2 P E.G E.pol ask) {k : Nat} {o : Oper} {fr fr' : Fr} {σ σ' : St} {ae : AExit} {ps : List Prop} (h : runOp E.T E.G E.pol ask o fr σ = some (ae, fr', σ', ps)) (hps : AllP ps) : OpOk P E.G k o fr σ ae fr' σ' :=
  fun _ _ _ _ _ hR hX hK hQ => runOp_sound hE.tab hc h hps hR (Ext.refl _) (fun C' a' hn hX' hR' => hK C' a' hn (hX.trans (hX'.k k)) hR') (fun C' e hn hX' hR' he => hQ C' e hn (hX.trans (hX'.k k)) hR' he)

theorem opS_ok (hE : E.Ok P) (hi : IAskOk P E.G ia) (k : Nat) {lax : List TypeId} {sh0 : List (FuncId × Sh (AOut × St))} {kd : Option Kd} {sh : Option (Sh (AOut × St))} {o : Oper} {fr : Fr} {σ : St} {K : AExit → Fr → St → Prop} (h : opS P E ia lax sh0 kd sh o fr σ K) :
    ∃ (ae : AExit) (fr' : Fr) (σ' : St), K ae fr' σ' ∧ OpOk P E.G k o fr σ ae fr' σ' := by
  unfold opS at h
  split at h
  · rename_i f args ats hop
    split at h <;> try exact h.elim
    rename_i k fs cs as hf has
    split at h <;> try exact h.elim
    rename_i hfk
    obtain ⟨ask, out, ups, rd, m, hask, hk, hcall⟩ := anyT_ok hi h
    split at hk <;> try exact hk.elim
    rename_i σ' happ
    have hev : evCall E.pol ask k (fs ++ as ++ cs) σ = some (out, σ', [σ.dep = σ.dep]) := by
      unfold evCall
      split at hcall
      · rename_i hp
        obtain ⟨h1, h2, h3⟩ := hcall
        subst h2 h3
        simp only [hp, h1, happ]
      · rename_i hp
        simp only [hp, hcall, happ]
      · rename_i hp0 hp2
        split
        · exact absurd ‹_› hp0
        · exact absurd ‹_› hp2
        · simp only [hcall, happ]
    split at hk
    · refine ⟨_, _, _, hk, .of hE hask (ps := [σ.dep = σ.dep]) ?_ ⟨rfl, trivial⟩⟩
      unfold runOp
      rw [hop]
      simp only [hf, has, hfk, if_true, hev]
    · refine ⟨_, _, _, hk, .of hE hask (ps := [σ.dep = σ.dep]) ?_ ⟨rfl, trivial⟩⟩
      unfold runOp
      rw [hop]
      simp only [hf, has, hfk, if_true, hev]
  · split at h
    · rw [AndP_iff] at h
      exact ⟨_, _, _, h.2, .of hE askNone_ok ‹_› h.1⟩
    · exact h.elim
  · split at h
    · rw [AndP_iff] at h
      exact ⟨_, _, _, h.2, .of hE askNone_ok ‹_› h.1⟩
    · exact h.elim
  · obtain ⟨e, he, hk⟩ := effT_ok _ _ _ _ h
    split at hk
    · rename_i σ1 happ
      have hop : OpOk P E.G k o fr σ .normal (fr.put o.dst e.v) σ1 := .of hE askNone_ok (runOp_of_astep he happ) trivial
      split at hk
      · obtain ⟨v', σ2, hk2, hf⟩ := fzT_ok hk
        refine ⟨_, _, _, hk2, fun C C0 a K Q hR hX hK hQ => hop C C0 a K Q hR hX (fun C' a' hn hX' hR' => ?_) (fun _ _ hn => absurd rfl hn)⟩
        obtain ⟨C2, q1, q2, q3⟩ := hf k C' fr o.dst a' hR'
        rw [← q1]
        exact hK C2 a' rfl (hX'.trans q2) q3
      · obtain ⟨v', σ2, hk2, hf⟩ := fzT_ok (fwT_fz hk)
        refine ⟨_, _, _, hk2, fun C C0 a K Q hR hX hK hQ => hop C C0 a K Q hR hX (fun C' a' hn hX' hR' => ?_) (fun _ _ hn => absurd rfl hn)⟩
        obtain ⟨C2, q1, q2, q3⟩ := hf k C' fr o.dst a' hR'
        rw [← q1]
        exact hK C2 a' rfl (hX'.trans q2) q3
      · exact ⟨_, _, _, hk, hop⟩
    · exact hk.elim

theorem locS_ok (hi : IAskOk P E.G ia) {lax : List TypeId} {sh0 : List (FuncId × Sh (AOut × St))} {kd : Option Kd} {sh : Option (Sh (AOut × St))} {o : Oper} {fr : Fr} {σ : St} {K : Eff → List Prop → Prop} (h : locS P E ia lax sh0 kd sh o fr σ K) :
    ∃ (ask : Ask) (e : Eff) (ps : List Prop), AskOk2 P E.G E.pol ask ∧ locStep E.T E.G E.pol ask o.op fr σ.g σ.objs.length σ.dep = some (e, ps) ∧ AllP ps ∧ K e ps := by
  unfold locS at h
  split at h
  · rename_i f args ats hop
    split at h <;> try exact h.elim
    rename_i k fs cs as hf has
    split at h <;> try exact h.elim
    rename_i hfk
    obtain ⟨ask, out, ups, rd, m, hask, hk, hcall⟩ := anyT_ok hi h
    split at hk <;> try exact hk.elim
    refine ⟨ask, _, [σ.dep = σ.dep], hask, ?_, ⟨rfl, trivial⟩, hk⟩
    unfold locStep
    rw [hop]
    simp only [hf, has, hfk, if_true]
    split at hcall
    · rename_i hp
      obtain ⟨h1, h2, h3⟩ := hcall
      subst h2 h3
      simp only [hp, h1]
    · rename_i hp
      simp only [hp, hcall]
    · rename_i hp0 hp2
      split
      · exact absurd ‹_› hp0
      · exact absurd ‹_› hp2
      · simp only [hcall]
  · exact h.elim
  · exact h.elim
  · obtain ⟨e, he, hk⟩ := effT_ok _ _ _ _ h
    exact ⟨_, e, _, askNone_ok, locStep_of_astep he, trivial, hk⟩

theorem runIdx_congr {T : Tab} {G : Nat → Option (List AV)} {pol : FuncId → Nat} {ops : Array Oper} {c c' : Nat → Ask} : ∀ (l : List Nat) (fr : Fr) (σ : St), (∀ i ∈ l, c i = c' i) → runIdx T G pol c ops l fr σ = runIdx T G pol c' ops l fr σ
  | [], _, _, _ => rfl
  | i :: rest, fr, σ, h => by
    simp only [runIdx]
    rw [h i (by simp)]
    have ih := fun fr σ => runIdx_congr (T := T) (G := G) (pol := pol) (ops := ops) rest fr σ fun j hj => h j (by simp [hj])
    simp only [ih]

theorem drawRun_congr {T : Tab} {G : Nat → Option (List AV)} {pol : FuncId → Nat} {ops : Array Oper} {c c' : Nat → Ask} : ∀ (l : List Nat) (fr : Fr) (σ : St), (∀ i ∈ l, c i = c' i) → drawRun T G pol c ops l fr σ = drawRun T G pol c' ops l fr σ
  | [], _, _, _ => rfl
  | i :: rest, fr, σ, h => by
    simp only [drawRun]
    rw [h i (by simp)]
    have ih := fun fr σ => drawRun_congr (T := T) (G := G) (pol := pol) (ops := ops) rest fr σ fun j hj => h j (by simp [hj])
    simp only [ih]

theorem seqS_ok (hE : E.Ok P) (hi : IAskOk P E.G ia) (k : Nat) {lax : List TypeId} {sh0 : List (FuncId × Sh (AOut × St))} {kds : List (Nat × Kd)} {shs : List (Nat × Sh (AOut × St))} {ops : Array Oper} : ∀ (l : List Nat) {fr : Fr} {σ : St} {K : AExit → Fr → St → Prop}, seqS P E ia lax sh0 kds shs ops l fr σ K →
    ∃ (ae : AExit) (fr' : Fr) (σ' : St), K ae fr' σ' ∧ ∀ (C C0 : Ctx) (a : Act), Rel P E.G C fr σ a → ExtK k C0 C → wpOps P ops (PostK P E.G k C0 ae fr' σ') l a C.w
  | [], fr, σ, K, h => ⟨.normal, fr, σ, h, fun C C0 a hR hX => by
    simp only [wpOps]
    exact ⟨C, rfl, hX, hR, rfl⟩⟩
  | i :: rest, fr, σ, K, h => by
    simp only [seqS] at h
    cases ho : ops[i]? with
    | none => rw [ho] at h; exact h.elim
    | some o =>
      rw [ho] at h
      simp only at h
      cases hw : wantedA ops fr o with
      | none => rw [hw] at h; exact h.elim
      | some b =>
        rw [hw] at h
        cases b with
        | false =>
          obtain ⟨ae, fr', σ', hk, hc⟩ := seqS_ok hE hi k rest h
          refine ⟨ae, fr', σ', hk, fun C C0 a hR hX => ?_⟩
          simp only [wpOps, ho]
          rw [wanted_rd hR.tmps hw, if_neg (by simp)]
          exact hc C C0 _ (hR.next (Ext.refl C) hR.inv hR.fresh rd_undef) hX
        | true =>
          obtain ⟨ae, fr1, σ1, hk, hop⟩ := opS_ok hE hi k h
          by_cases hae : ae = .normal
          · subst hae
            simp only at hk
            obtain ⟨ae2, fr2, σ2, hk2, hc2⟩ := seqS_ok hE hi k rest hk
            refine ⟨ae2, fr2, σ2, hk2, fun C C0 a hR hX => ?_⟩
            simp only [wpOps, ho]
            rw [wanted_rd hR.tmps hw, if_pos rfl]
            exact .inl (hop C C0 a _ _ hR hX (fun C' a' _ hX' hR' => hc2 C' C0 a' hR' hX') (fun _ _ hn => absurd rfl hn))
          · refine ⟨ae, fr1, σ1, by cases ae <;> first | exact absurd rfl hae | exact hk, fun C C0 a hR hX => ?_⟩
            simp only [wpOps, ho]
            rw [wanted_rd hR.tmps hw, if_pos rfl]
            exact .inl (hop C C0 a _ _ hR hX (fun _ _ hn => absurd hn hae) (fun C' e _ hX' hR' he => ⟨C', rfl, hX', hR', he⟩))

theorem drawS_ok (hi : IAskOk P E.G ia) {lax : List TypeId} {sh0 : List (FuncId × Sh (AOut × St))} {kds : List (Nat × Kd)} {shs : List (Nat × Sh (AOut × St))} {ops : Array Oper} : ∀ (l : List Nat) {fr : Fr} {σ : St} {K : List Rec → Fr → St → Prop}, l.Nodup → drawS P E ia lax sh0 kds shs ops l fr σ K →
    ∃ (call : Nat → Ask) (rs : List Rec) (fr' : Fr) (σ' : St), (∀ i, AskOk2 P E.G E.pol (call i)) ∧ drawRun E.T E.G E.pol call ops l fr σ = some (rs, fr', σ') ∧ AllP (recPs rs) ∧ K rs fr' σ'
  | [], fr, σ, K, _, h => ⟨fun _ _ _ _ => none, [], fr, σ, fun _ => askNone_ok, rfl, trivial, h⟩
  | i :: rest, fr, σ, K, hn, h => by
    simp only [List.nodup_cons] at hn
    simp only [drawS] at h
    cases ho : ops[i]? with
    | none => rw [ho] at h; exact h.elim
    | some o =>
      rw [ho] at h
      simp only at h
      cases hw : wantedA ops fr o with
      | none => rw [hw] at h; exact h.elim
      | some b =>
        rw [hw] at h
        cases b with
        | false =>
          obtain ⟨call, rs, fr', σ', hc, hr, hps, hk⟩ := drawS_ok hi rest hn.2 h
          exact ⟨call, ⟨false, .undef, [], [], 0, σ.objs.length, []⟩ :: rs, fr', σ', hc, by simp only [drawRun, ho, hw, hr], hps, hk⟩
        | true =>
          obtain ⟨ask, e, ps, hc, hr, hps, hk⟩ := locS_ok hi h
          cases happ : σ.app e.m e.ups with
          | none => rw [happ] at hk; exact hk.elim
          | some σ1 =>
            rw [happ] at hk
            obtain ⟨call, rs, fr2, σ2, hc2, hr2, hps2, hk2⟩ := drawS_ok hi rest hn.2 hk
            refine ⟨fun j => if j = i then ask else call j, _, fr2, σ2, ?_, ?_, ?_, hk2⟩
            · intro j
              by_cases hj : j = i
              · simp only [hj, if_true]; exact hc
              · simp only [hj, if_false]; exact hc2 j
            · simp only [drawRun, ho, hw, if_true, hr, happ]
              rw [drawRun_congr (c' := call) rest _ σ1 fun j hj => by
                have : j ≠ i := fun e => hn.1 (e ▸ hj)
                simp [this], hr2]
            · exact AllP.append.2 ⟨hps, hps2⟩

theorem rgS_ok (hE : E.Ok P) (hi : IAskOk P E.G ia) (k : Nat) {sc : Sc} {rid : Nat} {ops : Array Oper} {draw : Bool} {fr : Fr} {σ : St} {K : AExit → Fr → St → Prop} (h : rgS P E ia sc rid ops draw fr σ K) :
    ∃ ae fr' σ', K ae fr' σ' ∧ CodeOkK P E.G k (.region rid ops draw) fr σ ae fr' σ' := by
  unfold rgS at h
  split at h
  · obtain ⟨ae, fr', σ', hk, hc⟩ := seqS_ok hE hi k _ h
    exact ⟨ae, fr', σ', hk, fun C C0 a hR hX => wp_region (hc C C0 a hR hX)⟩
  · obtain ⟨call, rs, fr', σ', hc, hr, hps, hk⟩ := drawS_ok hi _ List.nodup_range h
    split at hk
    · rename_i hd
      simp only [Bool.and_eq_true] at hd
      refine ⟨.normal, fr', σ', hk, CodeOk.k (fun C C0 a hR hX => wp_region_any hE.mixed ?_) k⟩
      have hR' : Rel P E.G C.drew fr σ a := ⟨inv_drew hR.inv, hR.fresh, hR.tmps.ext (ext_drew C), hR.defs.ext (ext_drew C)⟩
      refine evDraw_sound (ps := recPs rs) hE.tab hc ?_ hps hR' (hX.trans (ext_drew C))
      unfold evDraw
      rw [hr]
      simp only [if_pos hd]
    · exact hk.elim

theorem rounds_ok {c : Code} {run : Fr → St → (AExit → Fr → St → Prop) → Prop} (hrun : ∀ {fr σ K}, run fr σ K → ∃ ae fr' σ', K ae fr' σ' ∧ CodeOkK P G k c fr σ ae fr' σ') : ∀ (n : Nat) {fr : Fr} {σ : St} {K : AExit → Fr → St → Prop}, roundsT run n fr σ K →
    ∃ ae fr' σ', K ae fr' σ' ∧ ∃ m, LoopNK P G k m c fr σ ae fr' σ'
  | 0, _, _, _, h => h.elim
  | n + 1, fr, σ, K, h => by
    simp only [roundsT] at h
    obtain ⟨ae, fr', σ', hk, hc⟩ := hrun h
    by_cases hae : ae = .normal
    · subst hae
      obtain ⟨ae2, fr2, σ2, hk2, m, hm⟩ := rounds_ok hrun n hk
      exact ⟨ae2, fr2, σ2, hk2, m + 1, loopK_next hc hm⟩
    · exact ⟨ae, fr', σ', by cases ae <;> first | exact absurd rfl hae | exact hk, 1, loopK_end hc hae⟩

theorem code_block {id : Nat} {c : Code} {fr fr' : Fr} {σ σ' : St} {ae : AExit} (h : CodeOkK P G k c fr σ ae fr' σ') : CodeOkK P G k (.block id c) fr σ (match ae with
    | .exit id' => match Nat.beq id' id with
      | true => .normal
      | false => .exit id'
    | ae => ae) fr' σ' := by
  intro C C0 a hR hX
  refine wp_block (wp_mono (h C C0 a hR hX) fun e a1 w1 hp => ?_)
  obtain ⟨C1, hw, hX1, hR1, he⟩ := hp
  subst hw
  cases ae <;> simp only [ERd] at he
  case exit id' =>
    subst he
    cases hb : Nat.beq id' id with
    | true =>
      have := Nat.eq_of_beq_eq_true hb
      subst this
      simp only [Exit.inBlock, if_true]
      exact ⟨C1, rfl, hX1, hR1, by simp only [hb, ERd]⟩
    | false =>
      have := Nat.ne_of_beq_eq_false hb
      simp only [Exit.inBlock, this, if_false]
      exact ⟨C1, rfl, hX1, hR1, by simp only [hb, ERd]⟩
  case panic v => obtain ⟨u, rfl, hu⟩ := he; exact ⟨C1, rfl, hX1, hR1, u, rfl, hu⟩
  all_goals (subst he; exact ⟨C1, rfl, hX1, hR1, rfl⟩)

theorem evt_ok (hE : E.Ok P) (hi : IAskOk P E.G ia) {sc : Sc} : ∀ (c : Code) {bid : Nat} {fr : Fr} {σ : St} {K : AExit → Fr → St → Prop}, evt P E ia k sc c bid fr σ K → ∃ ae fr' σ', K ae fr' σ' ∧ CodeOkK P E.G k c fr σ ae fr' σ'
  | .skip, bid, fr, σ, K, h => ⟨.normal, fr, σ, h, fun C C0 a hR hX => wp_skip ⟨C, rfl, hX, hR, rfl⟩⟩
  | .label l, bid, fr, σ, K, h => ⟨.normal, fr, σ, h, fun C C0 a hR hX => wp_label ⟨C, rfl, hX, hR, rfl⟩⟩
  | .exit id, bid, fr, σ, K, h => ⟨.exit id, fr, σ, h, fun C C0 a hR hX => wp_exit ⟨C, rfl, hX, hR, rfl⟩⟩
  | .goto l, bid, fr, σ, K, h => ⟨.goto l, fr, σ, h, fun C C0 a hR hX => wp_goto ⟨C, rfl, hX, hR, rfl⟩⟩
  | .ret, bid, fr, σ, K, h => ⟨.ret, fr, σ, h, fun C C0 a hR hX => wp_ret ⟨C, rfl, hX, hR, rfl⟩⟩
  | .region rid ops draw, bid, fr, σ, K, h => by
    exact rgS_ok hE hi k h
  | .seq x y, bid, fr, σ, K, h => by
    simp only [evt] at h
    obtain ⟨ae, fr', σ', hk, hc⟩ := evt_ok hE hi x h
    by_cases hae : ae = .normal
    · subst hae
      obtain ⟨ae2, fr2, σ2, hk2, hc2⟩ := evt_ok hE hi y hk
      exact ⟨ae2, fr2, σ2, hk2, codeK_seq hc hc2⟩
    · exact ⟨ae, fr', σ', by cases ae <;> first | exact absurd rfl hae | exact hk, codeK_seq_exit hc hae⟩
  | .cond c x y, bid, fr, σ, K, h => by
    simp only [evt] at h
    split at h <;> try exact h.elim
    rename_i v hv
    have hcond : ∀ (C : Ctx) (a : Act), Rel P E.G C fr σ a → a.eval c = .bool v := fun C a hR => by
      have := aeval_rd hR _ _ hv
      simpa only [Rd] using this
    cases v with
    | true =>
      obtain ⟨ae, fr', σ', hk, hc⟩ := evt_ok hE hi x (show evt P E ia k sc x bid fr σ K from h)
      exact ⟨ae, fr', σ', hk, fun C C0 a hR hX => wp_cond_true (hcond C a hR) (hc C C0 a hR hX)⟩
    | false =>
      obtain ⟨ae, fr', σ', hk, hc⟩ := evt_ok hE hi y (show evt P E ia k sc y bid fr σ K from h)
      exact ⟨ae, fr', σ', hk, fun C C0 a hR hX => wp_cond_false (hcond C a hR) (hc C C0 a hR hX)⟩
  | .block id c, bid, fr, σ, K, h => by
    simp only [evt] at h
    obtain ⟨ae, fr', σ', hk, hc⟩ := evt_ok hE hi c h
    refine ⟨_, fr', σ', ?_, code_block hc⟩
    cases ae <;> try exact hk
    simp only at hk ⊢
    split <;> (rename_i hb; rw [hb] at hk; exact hk)
  | .loop c, bid, fr, σ, K, h => by
    simp only [evt] at h
    split at h
    · split at h
      · rename_i hd
        obtain ⟨ρ, kvs0, σ0, h, hcan⟩ := canonT_ok h hd
        obtain ⟨⟨ae, kvs, σ'⟩, h1, hk⟩ := Sh.any_ok _ h
        refine ⟨ae, _, σ', hk, fun C C0 a hR hX => ?_⟩
        obtain ⟨C2, hw, _, hX2, hR2, _⟩ := hcan C a hR
        rw [← hw]
        exact h1 C2 C0 a hR2 (hX.trans hX2)
      · exact h.elim
    · obtain ⟨ae, fr', σ', hk, m, hm⟩ := rounds_ok (fun hr => evt_ok hE hi c hr) _ h
      exact ⟨ae, fr', σ', hk, hm.ok⟩
    · exact h.elim
  | .rangeFunc .., _, _, _, _, h | .scope _, _, _, _, _, h | .refuse _, _, _, _, _, h => by simp [evt] at h

end Go.Vid

/-
The tree of a function, of a function on data, of a loop's round; and loops by a measure.
-/
namespace Go.Vid

variable {P : Program} {G : Nat → Option (List AV)} {T : Tab}

section
variable (P : Program) (E : Env)

def endT (fn : Func) (m : Option AV) (fr : Fr) (σ : St) (K : AOut → St → Prop) : Prop :=
  match evEnd P E fn m fr [] σ with
  | some (out, σ2, qs) => AndP qs (K out σ2)
  | none => False

def scOf (tb : List (FuncId × Sc)) (f : FuncId) : Sc := match findN tb f with
  | some sc => sc
  | none => {}

def iaOf (tb : List (FuncId × Sc)) (F : FuncId → List AV → St → (AOut → St → Prop) → Prop) : IAsk := fun k => match findN tb k with
  | some sc => match sc.inl with
    | true => some (F k)
    | false => none
  | none => none

def fnT (tb : List (FuncId × Sc)) : Nat → FuncId → List AV → St → (AOut → St → Prop) → Prop
  | 0, _, _, _, _ => False
  | n + 1, f, args, σ, K => match E.fb f with
    | none => False
    | some fn => match fn.body with
      | none => False
      | some c => evt P E (iaOf tb (fnT tb n)) σ.objs.length (scOf tb f) c 0 ⟨args ++ List.replicate (fn.ntmps - args.length) .undef, []⟩ σ fun ae fr σ' => match ae with
        | .normal => endT P E fn none fr σ' K
        | .ret => endT P E fn none fr σ' K
        | .panic v => endT P E fn (some v) fr σ' K
        | _ => False

def shutT (lax : List TypeId) (σ1 : St) (out : AOut) (K : AOut → Prop) : Prop := match rsA (rsLookC lax σ1.g rsDepth) 0 out.val with
  | some (v', rd) => laxP lax σ1.g rd (match tagLe 0 v' with
    | true => K (reOut v' out)
    | false => False)
  | none => False

/-- A function that is handed data and gives data. -/
def dataT (tb : List (FuncId × Sc)) (f : FuncId) (args : List AV) (K : AOut → Prop) : Prop :=
  fnT P E tb 9 f args ⟨[], 0⟩ fun out σ1 => match Nat.beq σ1.dep 0 with
    | true => shutT (scOf tb f).lax σ1 out K
    | false => False

/-- A loop's round: 'k' own objects keep their numbers; the others are told by what is kept. -/
def roundT (tb : List (FuncId × Sc)) (f : FuncId) (c : Code) (k N : Nat) (keepN keepX : List Nat) (kvs : List (Nat × AV)) (σ : St) (K : AExit → List (Nat × AV) → St → Prop) : Prop :=
  evt P E (iaOf tb (fnT P E tb 9)) k (scOf tb f) c 0 (frOf N kvs) σ fun ae fr' σ' => match Nat.beq fr'.tmps.length N && fr'.defs.isEmpty with
    | true => match ae with
      | .normal => canonT (scOf tb f).lax k keepN [] fr'.tmps σ' fun _ kvs' σ2 => K .normal kvs' σ2
      | .panic v => canonT (scOf tb f).lax k keepX [v] fr'.tmps σ' fun ρ kvs' σ2 => match rnA ρ v with
        | some v' => K (.panic v') kvs' σ2
        | none => False
      | ae => canonT (scOf tb f).lax k keepX [] fr'.tmps σ' fun _ kvs' σ2 => K ae kvs' σ2
    | false => False
end

variable {E : Env}

theorem fn_of_code (hE : E.Ok P) {f : FuncId} {fn : Func} {c : Code} {args : List AV} {σ σ1 σ' : St} {out : AOut} {ae : AExit} {m : Option AV} {fr : Fr} {sc' : List Scr} {qs : List Prop} (hf : E.fb f = some fn) (hb : fn.body = some c)
    (hc : CodeOkK P E.G σ.objs.length c ⟨args ++ List.replicate (fn.ntmps - args.length) .undef, []⟩ σ ae fr σ1) (hae : (ae = .normal ∨ ae = .ret) ∧ m = none ∨ ∃ v, ae = .panic v ∧ m = some v)
    (hend : evEnd P E fn m fr sc' σ1 = some (out, σ', qs)) (hqs : AllP qs) : CallOk P E.G f args σ out σ' := by
  intro C vs hI hF ha
  refine calls_of_wp_defers (hE.fb f fn hf) hb ?_
  have hl := ha.length
  have hR : Rel P E.G C ⟨args ++ List.replicate (fn.ntmps - args.length) .undef, []⟩ σ { tmps := ⟨vs⟩ ++ Array.replicate (fn.ntmps - (⟨vs⟩ : Array Value).size) undef, defers := [] } :=
    ⟨hI, hF, by rw [hl]; simpa using ha.append (.replicate rd_undef _), by simp [RdD]⟩
  refine wp_mono (hc C C _ hR (ExtK.refl _ C)) fun e a w ⟨C', hw, hX, hR', he⟩ => ?_
  subst hw
  have hX := hX.full hF
  unfold evEnd at hend
  have hlv : ∀ u, ModeRd P C' m u → Leaves P fn a.tmps (CPost P E.G C out σ') a.defers u C'.w := by
    intro u hm
    split at hend <;> try cases hend
    rename_i hlv
    split at hend <;> cases hend
    exact leaves_sound (fr := fr) hE fr.defs hlv hqs ‹_› hX hR'.inv hR'.fresh hR'.tmps hR'.defs hm
  rcases hae with ⟨rfl | rfl, rfl⟩ | ⟨v, rfl, rfl⟩
  · simp only [ERd] at he; subst he; exact hlv _ rfl
  · simp only [ERd] at he; subst he; exact hlv _ rfl
  · simp only [ERd] at he
    obtain ⟨x, rfl, hx⟩ := he
    exact hlv _ ⟨x, rfl, hx⟩

theorem endT_ok {fn : Func} {m : Option AV} {fr : Fr} {σ : St} {K : AOut → St → Prop} (h : endT P E fn m fr σ K) : ∃ out σ2 qs, evEnd P E fn m fr [] σ = some (out, σ2, qs) ∧ AllP qs ∧ K out σ2 := by
  unfold endT at h
  split at h
  · rw [AndP_iff] at h
    exact ⟨_, _, _, ‹_›, h.1, h.2⟩
  · exact h.elim

theorem iaOf_ok {tb : List (FuncId × Sc)} {F : FuncId → List AV → St → (AOut → St → Prop) → Prop} (h : ∀ f args σ K, F f args σ K → ∃ out σ', K out σ' ∧ CallOk P G f args σ out σ') : IAskOk P G (iaOf tb F) := by
  intro f F' hf
  unfold iaOf at hf
  split at hf <;> try cases hf
  split at hf <;> cases hf
  exact h f

theorem fnT_ok (hE : E.Ok P) {tb : List (FuncId × Sc)} : ∀ (n : Nat) (f : FuncId) (args : List AV) (σ : St) (K : AOut → St → Prop), fnT P E tb n f args σ K → ∃ out σ', K out σ' ∧ CallOk P E.G f args σ out σ'
  | 0, _, _, _, _, h => h.elim
  | n + 1, f, args, σ, K, h => by
    simp only [fnT] at h
    split at h
    · exact h.elim
    rename_i fn hf
    split at h
    · exact h.elim
    rename_i c hb
    obtain ⟨ae, fr, σ1, hk, hc⟩ := evt_ok hE (iaOf_ok (fnT_ok hE n)) c h
    cases ae with
    | normal =>
      obtain ⟨out, σ2, qs, h1, h2, h3⟩ := endT_ok hk
      exact ⟨out, σ2, h3, fn_of_code hE hf hb hc (.inl ⟨.inl rfl, rfl⟩) h1 h2⟩
    | ret =>
      obtain ⟨out, σ2, qs, h1, h2, h3⟩ := endT_ok hk
      exact ⟨out, σ2, h3, fn_of_code hE hf hb hc (.inl ⟨.inr rfl, rfl⟩) h1 h2⟩
    | panic v =>
      obtain ⟨out, σ2, qs, h1, h2, h3⟩ := endT_ok hk
      exact ⟨out, σ2, h3, fn_of_code hE hf hb hc (.inr ⟨v, rfl, rfl⟩) h1 h2⟩
    | _ => exact hk.elim

theorem shutT_ok {lax : List TypeId} {σ1 : St} {out : AOut} {K : AOut → Prop} (h : shutT lax σ1 out K) : ∃ out', AOut.map (fun v => match rsA (rsLook σ1.g 0 rsDepth) 0 v with
      | some (v', _) => if tagLe 0 v' = true then some v' else none
      | none => none) out = some out' ∧ K out' := by
  unfold shutT at h
  split at h
  · rename_i v' rd hr
    obtain ⟨hl, h⟩ := laxP_ok h
    split at h
    · rename_i ht
      refine ⟨_, ?_, h⟩
      have := rsAC_ok hr hl
      cases out <;> simp only [AOut.val] at this <;> simp only [AOut.map, this, ht, if_true, reOut]
    · exact h.elim
  · exact h.elim

theorem dataT_ok (hE : E.Ok P) {tb : List (FuncId × Sc)} {f : FuncId} {args : List AV} {K : AOut → Prop} (h : dataT P E tb f args K) : ∃ out, K out ∧ XferOk P E.G f args ⟨[], 0⟩ out ⟨[], 0⟩ := by
  obtain ⟨out, σ1, hk, hc⟩ := fnT_ok hE 9 f args _ _ h
  split at hk <;> try exact hk.elim
  rename_i hd
  obtain ⟨out', ho, hk⟩ := shutT_ok hk
  exact ⟨out', hk, hc.xfer.shut (Nat.eq_of_beq_eq_true hd) ho⟩

theorem round_ok (hE : E.Ok P) {tb : List (FuncId × Sc)} {f : FuncId} {c : Code} {k N : Nat} {keepN keepX : List Nat} {kvs : List (Nat × AV)} {σ : St} {K : AExit → List (Nat × AV) → St → Prop} (h : roundT P E tb f c k N keepN keepX kvs σ K) :
    ∃ ae kvs' σ', K ae kvs' σ' ∧ CodeOkK P E.G k c (frOf N kvs) σ ae (frOf N kvs') σ' := by
  obtain ⟨ae, fr', σ', hk, hc⟩ := evt_ok hE (iaOf_ok (fnT_ok hE 9)) c h
  split at hk <;> try exact hk.elim
  rename_i hb
  simp only [Bool.and_eq_true, List.isEmpty_iff] at hb
  obtain ⟨h1, h2⟩ := hb
  have h1 := Nat.eq_of_beq_eq_true h1
  subst h1
  have fin : ∀ {ae2 : AExit} {ρ : Nat → Option Nat} {kvs' : List (Nat × AV)} {σ2 : St}, (∀ (C : Ctx) (a : Act), Rel P E.G C fr' σ' a → ∃ C2 : Ctx, C2.w = C.w ∧ C2.S = C.S ∧ ExtK k C C2 ∧ Rel P E.G C2 (frOf fr'.tmps.length kvs') σ2 a ∧ ∀ id j b, ρ id = some j → C.φ id = some b → C2.φ j = some b) →
      (∀ (C C2 : Ctx) (e : Exit), C2.w = C.w → C2.S = C.S → (∀ id j b, ρ id = some j → C.φ id = some b → C2.φ j = some b) → ERd P C ae e → ERd P C2 ae2 e) → CodeOkK P E.G k c (frOf fr'.tmps.length kvs) σ ae2 (frOf fr'.tmps.length kvs') σ2 := by
    intro ae2 ρ kvs' σ2 hcan hae C C0 a hR hX
    refine wp_mono (hc C C0 a hR hX) fun e a w ⟨C', hw, hX', hR', he⟩ => ?_
    obtain ⟨C2, q1, q2, q3, q4, q5⟩ := hcan C' a hR'
    exact ⟨C2, q1.trans hw, hX'.trans q3, q4, hae C' C2 e q1 q2 q5 he⟩
  cases ae with
  | normal =>
    obtain ⟨ρ, kvs', σ2, hk, hcan⟩ := canonT_ok hk h2
    exact ⟨_, _, _, hk, fin hcan fun _ _ _ _ _ _ h => h⟩
  | panic v =>
    obtain ⟨ρ, kvs', σ2, hk, hcan⟩ := canonT_ok hk h2
    split at hk <;> try exact hk.elim
    rename_i v' hv
    refine ⟨_, _, _, hk, fin hcan fun C C2 e hw hS hφ he => ?_⟩
    obtain ⟨u, rfl, hu⟩ := he
    refine ⟨u, rfl, ?_⟩
    rw [hw, hS]
    exact rnA_rd hφ _ _ _ hv hu
  | _ =>
    obtain ⟨ρ, kvs', σ2, hk, hcan⟩ := canonT_ok hk h2
    exact ⟨_, _, _, hk, fin hcan fun _ _ _ _ _ _ h => h⟩

/-- LOOPS, by a measure: 'H x' is what stands at the head, 'Q x' what comes behind. -/
theorem loop_by {α : Type} (hE : E.Ok P) (H : α → List (Nat × AV) → St → Prop) (Q : α → AExit → List (Nat × AV) → St → Prop) (μ : α → Nat) {tb : List (FuncId × Sc)} {f : FuncId} {c : Code} {k N : Nat} {keepN keepX : List Nat}
    (hr : ∀ x kvs σ, H x kvs σ → roundT P E tb f c k N keepN keepX kvs σ fun ae kvs' σ' => match ae with
      | .normal => ∃ y, μ y < μ x ∧ H y kvs' σ' ∧ ∀ ae kvs σ, Q y ae kvs σ → Q x ae kvs σ
      | ae => Q x ae kvs' σ') :
    ∀ x kvs σ, H x kvs σ → ∃ ae kvs' σ', Q x ae kvs' σ' ∧ CodeOkK P E.G k (.loop c) (frOf N kvs) σ ae (frOf N kvs') σ' := by
  have main : ∀ m x kvs σ, μ x < m → H x kvs σ → ∃ ae kvs' σ', Q x ae kvs' σ' ∧ ∃ m, LoopNK P E.G k m c (frOf N kvs) σ ae (frOf N kvs') σ' := by
    intro m
    induction m with
    | zero => intro x _ _ h; omega
    | succ m ih =>
      intro x kvs σ hm hx
      obtain ⟨ae, kvs', σ', hk, hc⟩ := round_ok hE (hr x kvs σ hx)
      by_cases hae : ae = .normal
      · subst hae
        obtain ⟨y, hy, hH, hQ⟩ := hk
        obtain ⟨ae2, kvs2, σ2, hq, m', hl⟩ := ih y kvs' σ' (by omega) hH
        exact ⟨ae2, kvs2, σ2, hQ _ _ _ hq, m' + 1, loopK_next hc hl⟩
      · exact ⟨ae, kvs', σ', by cases ae <;> first | exact absurd rfl hae | exact hk, 1, loopK_end hc hae⟩
  intro x kvs σ hx
  obtain ⟨ae, kvs', σ', hq, m, hl⟩ := main (μ x + 1) x kvs σ (by omega) hx
  exact ⟨ae, kvs', σ', hq, hl.ok⟩

/-- The body of the loop in a block. -/
def loopIn : Code → Nat → Nat → Option Code
  | .seq x y, b, i => match loopIn x b i with
    | some c => some c
    | none => loopIn y b i
  | .cond _ x y, b, i => match loopIn x b i with
    | some c => some c
    | none => loopIn y b i
  | .block id c, _, i => loopIn c id i
  | .loop c, b, i => match Nat.beq b i with
    | true => some c
    | false => loopIn c b i
  | _, _, _ => none

def bodyL (fn : Func) (i : Nat) : Code := match fn.body with
  | some c => match loopIn c 0 i with
    | some d => d
    | none => .skip
  | none => .skip

end Go.Vid

/-
The tree of a function that is handed own objects for good and gives own objects back, under new numbers.
-/
namespace Go.Vid

variable {P : Program} {G : Nat → Option (List AV)} {T : Tab}

theorem leaves_mono {fn : Func} {tmps : Array Value} {R R' : Ending → World → Prop} (h : ∀ e w, R e w → R' e w) : ∀ {l : List Deferred} {u : FrameMode} {w : World}, Leaves P fn tmps R l u w → Leaves P fn tmps R' l u w
  | [], .returning, w, hl => by
    simp only [Leaves] at hl ⊢
    obtain ⟨v, h1, h2⟩ := hl
    exact ⟨v, h1, h _ _ h2⟩
  | [], .panicking chain, w, hl => by
    simp only [Leaves] at hl ⊢
    exact h _ _ hl
  | [], .run, w, hl => by simp only [Leaves] at hl
  | d :: ds, u, w, hl => by
    simp only [Leaves] at hl ⊢
    obtain ⟨h1, fv, cap, f, args, h2, h3, h4⟩ := hl
    refine ⟨h1, fv, cap, f, args, h2, h3, fun c cs hm => ?_⟩
    obtain ⟨e, u', w', fr, hR, hrest⟩ := h4 c cs hm
    refine ⟨e, u', w', fr, ?_, hrest⟩
    cases e with
    | returned v => exact leaves_mono h hR
    | panicked chain => exact leaves_mono h hR
    | outgrown => exact h _ _ hR

section
variable (P : Program) (E : Env)

def endX (lax : List TypeId) (K : AOut → St → Prop) (out : AOut) (σ2 : St) : Prop :=
  canonT lax 0 [] [out.val] [] σ2 fun ρ _ σ3 => match rnA ρ out.val with
  | some v' => K (reOut v' out) σ3
  | none => False

def fnX (tb : List (FuncId × Sc)) (f : FuncId) (args : List AV) (σ : St) (K : AOut → St → Prop) : Prop := match E.fb f with
  | none => False
  | some fn => match fn.body with
    | none => False
    | some c => evt P E (iaOf tb (fnT P E tb 9)) 0 (scOf tb f) c 0 ⟨args ++ List.replicate (fn.ntmps - args.length) .undef, []⟩ σ fun ae fr σ' => match ae with
      | .normal => endT P E fn none fr σ' (endX (scOf tb f).lax K)
      | .ret => endT P E fn none fr σ' (endX (scOf tb f).lax K)
      | .panic v => endT P E fn (some v) fr σ' (endX (scOf tb f).lax K)
      | _ => False
end

variable {E : Env}

theorem endX_ok {lax : List TypeId} {K : AOut → St → Prop} {out : AOut} {σ2 : St} (h : endX lax K out σ2) : ∃ out' σ3, K out' σ3 ∧ ∀ {C0 C : Ctx}, ExtX C0 C → ∀ {e : Ending} {w : World}, CPost P G C out σ2 e w →
    ∃ C' : Ctx, C'.w = w ∧ ExtX C0 C' ∧ Inv P G C' σ3.g σ3.dep ∧ Fresh C' σ3.objs.length ∧ OutRd P C' out' e := by
  unfold endX at h
  obtain ⟨ρ, kvs, σ3, h1, h2⟩ := canonT_ok (P := P) (G := G) (fr := ⟨[], []⟩) h rfl
  split at h1
  · rename_i v' hv'
    refine ⟨_, σ3, h1, fun {C0 C} hX {e w} hc => ?_⟩
    obtain ⟨C1, hw, hE, hI, hF, ho⟩ := hc
    subst hw
    obtain ⟨C2, hw2, hS2, hX2, hR2, hφ⟩ := h2 C1 { tmps := #[], defers := [] } ⟨hI, hF, .nil, by simp [RdD]⟩
    refine ⟨C2, hw2, (hX.trans hE.x).trans hX2.x, hR2.inv, hR2.fresh, ?_⟩
    cases out with
    | ret v =>
      obtain ⟨u, rfl, hu⟩ := ho
      refine ⟨u, rfl, ?_⟩
      rw [hw2, hS2]
      exact rnA_rd hφ _ _ _ hv' hu
    | panic v =>
      obtain ⟨u, rfl, hu⟩ := ho
      refine ⟨u, rfl, ?_⟩
      rw [hw2, hS2]
      exact rnA_rd hφ _ _ _ hv' hu
  · exact h1.elim

theorem fnX_of_code (hE : E.Ok P) {f : FuncId} {fn : Func} {c : Code} {args : List AV} {σ σ1 σ2 σ3 : St} {out out' : AOut} {ae : AExit} {m : Option AV} {fr : Fr} {qs : List Prop} (hf : E.fb f = some fn) (hb : fn.body = some c)
    (hc : CodeOkK P E.G 0 c ⟨args ++ List.replicate (fn.ntmps - args.length) .undef, []⟩ σ ae fr σ1) (hae : (ae = .normal ∨ ae = .ret) ∧ m = none ∨ ∃ v, ae = .panic v ∧ m = some v)
    (hend : evEnd P E fn m fr [] σ1 = some (out, σ2, qs)) (hqs : AllP qs)
    (hx : ∀ {C0 C : Ctx}, ExtX C0 C → ∀ {e : Ending} {w : World}, CPost P E.G C out σ2 e w → ∃ C' : Ctx, C'.w = w ∧ ExtX C0 C' ∧ Inv P E.G C' σ3.g σ3.dep ∧ Fresh C' σ3.objs.length ∧ OutRd P C' out' e) : XferOk P E.G f args σ out' σ3 := by
  intro C vs hI hF ha
  refine calls_of_wp_defers (hE.fb f fn hf) hb ?_
  have hl := ha.length
  have hR : Rel P E.G C ⟨args ++ List.replicate (fn.ntmps - args.length) .undef, []⟩ σ { tmps := ⟨vs⟩ ++ Array.replicate (fn.ntmps - (⟨vs⟩ : Array Value).size) undef, defers := [] } :=
    ⟨hI, hF, by rw [hl]; simpa using ha.append (.replicate rd_undef _), by simp [RdD]⟩
  refine wp_mono (hc C C _ hR (ExtK.refl _ C)) fun e a w ⟨C', hw, hX, hR', he⟩ => ?_
  subst hw
  unfold evEnd at hend
  have hlv : ∀ u, ModeRd P C' m u → Leaves P fn a.tmps (fun e w => ∃ C2 : Ctx, C2.w = w ∧ ExtX C C2 ∧ Inv P E.G C2 σ3.g σ3.dep ∧ Fresh C2 σ3.objs.length ∧ OutRd P C2 out' e) a.defers u C'.w := by
    intro u hm
    split at hend <;> try cases hend
    rename_i hlv
    split at hend <;> cases hend
    exact leaves_mono (fun e w h => hx hX.x h) (leaves_sound (fr := fr) hE fr.defs hlv hqs ‹_› (Ext.refl C') hR'.inv hR'.fresh hR'.tmps hR'.defs hm)
  rcases hae with ⟨rfl | rfl, rfl⟩ | ⟨v, rfl, rfl⟩
  · simp only [ERd] at he; subst he; exact hlv _ rfl
  · simp only [ERd] at he; subst he; exact hlv _ rfl
  · simp only [ERd] at he
    obtain ⟨x, rfl, hx⟩ := he
    exact hlv _ ⟨x, rfl, hx⟩

theorem fnX_ok (hE : E.Ok P) {tb : List (FuncId × Sc)} {f : FuncId} {args : List AV} {σ : St} {K : AOut → St → Prop} (h : fnX P E tb f args σ K) : ∃ out σ', K out σ' ∧ XferOk P E.G f args σ out σ' := by
  unfold fnX at h
  split at h
  · exact h.elim
  rename_i fn hf
  split at h
  · exact h.elim
  rename_i c hb
  obtain ⟨ae, fr, σ1, hk, hc⟩ := evt_ok hE (iaOf_ok (fnT_ok hE 9)) c h
  cases ae with
  | normal =>
    obtain ⟨out, σ2, qs, h1, h2, h3⟩ := endT_ok hk
    obtain ⟨out', σ3, h4, h5⟩ := endX_ok (P := P) (G := E.G) h3
    exact ⟨out', σ3, h4, fnX_of_code hE hf hb hc (.inl ⟨.inl rfl, rfl⟩) h1 h2 h5⟩
  | ret =>
    obtain ⟨out, σ2, qs, h1, h2, h3⟩ := endT_ok hk
    obtain ⟨out', σ3, h4, h5⟩ := endX_ok (P := P) (G := E.G) h3
    exact ⟨out', σ3, h4, fnX_of_code hE hf hb hc (.inl ⟨.inr rfl, rfl⟩) h1 h2 h5⟩
  | panic v =>
    obtain ⟨out, σ2, qs, h1, h2, h3⟩ := endT_ok hk
    obtain ⟨out', σ3, h4, h5⟩ := endX_ok (P := P) (G := E.G) h3
    exact ⟨out', σ3, h4, fnX_of_code hE hf hb hc (.inr ⟨v, rfl, rfl⟩) h1 h2 h5⟩
  | _ => exact hk.elim
end Go.Vid

/-
What a call leaves, told more shortly: the new objects that its answer reaches become data, all other new ones are dropped.
-/
namespace Go.Vid

variable {P : Program} {G : Nat → Option (List AV)} {T : Tab}

def hideG (n : Nat) (g : Nat → Option AObj) : Nat → Option AObj := fun i => if i < n then none else g i

def layV (n : Nat) (σ : St) (v : AV) : Option AV := match rsA (rsLook (hideG n σ.g) 0 rsDepth) 0 v with
  | some (v', _) => if tagLe 0 v' = true then some v' else none
  | none => none

theorem CallOk.lay (n : Nat) {f : FuncId} {args : List AV} {σ σ' : St} {out out' : AOut} (h : CallOk P G f args σ out σ') (hn : σ.objs.length ≤ n) (ho : AOut.map (layV n σ') out = some out') : CallOk P G f args σ out' (σ'.cut n) := by
  intro C vs hI hF ha
  refine (h C vs hI hF ha).mono fun e w ⟨C1, hw, hX1, hI1, hF1, hout⟩ => ?_
  subst hw
  let φ' : Nat → Option Nat := fun id => if id < n then C1.φ id else none
  let S3 : Nat → Nat → Prop := fun j b => C1.S j b ∨ (j = 0 ∧ ∃ id o, hideG n σ'.g id = some o ∧ C1.φ id = some b)
  have hS3 : ∀ k b, C1.S k b → S3 k b := fun k b h => .inl h
  let C2 : Ctx := ⟨C1.w, S3, φ'⟩
  have hφ : ∀ id b, id < n → C1.φ id = some b → φ' id = some b := fun id b h1 h2 => by simp only [φ', if_pos h1]; exact h2
  have hφ2 : ∀ id b, φ' id = some b → id < n ∧ C1.φ id = some b := by
    intro id b hb
    simp only [φ'] at hb
    split at hb
    · exact ⟨‹_›, hb⟩
    · cases hb
  have hhg : ∀ id o, hideG n σ'.g id = some o → n ≤ id ∧ σ'.g id = some o := by
    intro id o hid
    simp only [hideG] at hid
    split at hid
    · cases hid
    · exact ⟨by omega, hid⟩
  have hX2 : Ext C C2 := by
    refine ⟨hX1.os, hX1.tape, hX1.output, hX1.size, fun k b hk => hS3 _ _ (hX1.tag k b hk), hX1.prot, hX1.shp, ?_, ?_, fun id b hb => hX1.pnew id b (hφ2 id b hb).2, hX1.frm⟩
    · intro id b hb
      have h2 : id < n := by
        rcases Nat.lt_or_ge id n with h | h
        · exact h
        · have := hF id (by omega); rw [hb] at this; cases this
      exact hφ id b h2 (hX1.phi id b hb)
    · rintro k b (hk | ⟨_, id, o, hg, hb⟩)
      · exact hX1.snew k b hk
      · have hnn := hF id (by have := (hhg id o hg).1; omega)
        rcases hX1.pnew id b hb with h | h | h
        · rw [hnn] at h; cases h
        · exact .inr (.inl h)
        · exact .inr (.inr h)
  have hI3 : Inv P G C1 (hideG n σ'.g) σ'.dep := hI1.sub fun i o hi => (hhg i o hi).2
  have hobj : ∀ id o, (σ'.cut n).g id = some o → id < n ∧ σ'.g id = some o ∧ ∃ cs el gr, o = .cells cs el gr ∧ belowL n cs = true := by
    intro id o ho
    simp only [St.g, St.cut] at ho
    split at ho
    · rename_i x hx
      subst ho
      obtain ⟨h1, x, h2, h3⟩ := cutOs_get _ _ _ _ hx
      unfold cutO at h3
      split at h3
      · rename_i cs el gr
        split at h3 <;> cases h3
        rename_i hb
        exact ⟨h1, by simp [St.g, h2], cs, el, gr, rfl, hb⟩
      · cases h3
    · cases ho
  have hk3 : Keeps C1.w C1.w C1.S S3 φ' φ' := ⟨hS3, fun _ _ _ _ _ h => h, (fun _ _ _ _ h => h), (fun _ _ h => h)⟩
  refine ⟨C2, rfl, hX2, ⟨?_, ?_, ?_, ?_, ?_⟩, ?_, ?_⟩
  · rintro k b (hk | ⟨_, id, o, hg, hb⟩)
    · exact hI1.lt k b hk
    · obtain ⟨b', h1, _, h3⟩ := hI3.obj id o hg
      rw [hb] at h1; cases h1; exact h3.lt
  · rintro k b (hk | ⟨rfl, _⟩)
    · exact hI1.dep k b hk
    · exact Nat.zero_le _
  · intro id o ho
    obtain ⟨h1, h2, cs, el, gr, rfl, hb⟩ := hobj id o ho
    obtain ⟨b, q1, q2, q3⟩ := hI1.obj id _ h2
    refine ⟨b, hφ id b h1 q1, ?_, ?_⟩
    · rintro k (hk | ⟨_, id', o', hg, hb'⟩)
      · exact q2 k hk
      · have h5 := hI1.inj id id' b _ _ h2 (hhg id' o' hg).2 q1 hb'
        have := (hhg id' o' hg).1
        omega
    · obtain ⟨arr, fz, p1, p2, p3, p4, p5, p6⟩ := q3
      exact ⟨arr, fz, p1, p2, p3, p4, (rdL_below hφ _ _ (belowL_mem hb) p5).keep hk3, p6⟩
  · intro i j b oi oj hi hj hbi hbj
    exact hI1.inj i j b oi oj (hobj i oi hi).2.1 (hobj j oj hj).2.1 (hφ2 i b hbi).2 (hφ2 j b hbj).2
  · intro m cs hm
    obtain ⟨h1, h2⟩ := hI1.glob m cs hm
    exact ⟨hS3 _ _ h1, h2.keep (hk3.inner 0) ⟨0, Nat.le_refl _, h1⟩⟩
  · intro id hid
    show φ' id = none
    simp only [φ']
    split
    · rename_i h1
      simp only [St.cut, cutOs_len] at hid
      exact hF1 id (by omega)
    · rfl
  · have key : ∀ v v' u, layV n σ' v = some v' → Rd P C1.w C1.S C1.φ v u → Rd P C2.w C2.S C2.φ v' u := by
      intro v v' u hm hr
      unfold layV at hm
      split at hm <;> try cases hm
      rename_i x r hx
      split at hm <;> cases hm
      rename_i ht
      have hv' : Rd P C2.w S3 noId v' u := rsA_rd hS3 (rsLook_ok hI3 hS3 (fun id o b hg hb => .inr ⟨rfl, id, o, hg, hb⟩) rsDepth) _ _ _ _ hx hr
      exact (Rd.tagged (φ' := C2.φ) v' u hv' ht).keep ⟨fun k b hk => hk.2, fun _ _ _ _ _ h => h, fun _ _ _ _ h => h, fun _ _ h => h⟩
    cases out with
    | ret v =>
      simp only [AOut.map] at ho
      cases hv : layV n σ' v with
      | none => simp [hv] at ho
      | some v' =>
        simp [hv] at ho; subst ho
        obtain ⟨u, rfl, hu⟩ := hout
        exact ⟨u, rfl, key _ _ _ hv hu⟩
    | panic v =>
      simp only [AOut.map] at ho
      cases hv : layV n σ' v with
      | none => simp [hv] at ho
      | some v' =>
        simp [hv] at ho; subst ho
        obtain ⟨u, rfl, hu⟩ := hout
        exact ⟨u, rfl, key _ _ _ hv hu⟩

end Go.Vid
