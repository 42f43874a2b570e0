/-
The abstract machine: calls, frames, regions, loops, deferred calls.
-/
import Derived.Test.YtnjlocjikfbgdaaDoorKA
import Derived.Defers
import Derived.LoopN
import Derived.Recover
set_option linter.all false

/-
Own objects laid open as data (for a callee that may only read them, or when a call hands back what it made), and what a call is.
-/
namespace Go.Vid

structure St where
  objs : List (Option AObj)
  dep : Nat
  deriving Inhabited

def St.g (σ : St) (i : Nat) : Option AObj := match σ.objs[i]? with
  | some o => o
  | none => none

inductive AOut where
  | ret (v : AV)
  | panic (v : AV)
  deriving Inhabited

mutual
def tagLe (K : Nat) : AV → Bool
  | .lit k _ => k ≤ K
  | .lsl nl k _ _ _ => decide (k ≤ K) || nl
  | .ref _ _ | .rsl _ _ _ _ => false
  | .func _ fs cs => tagLeL K fs && tagLeL K cs
  | .iface _ v => tagLe K v
  | .agg cs | .tup cs => tagLeL K cs
  | _ => true
def tagLeL (K : Nat) : List AV → Bool
  | [] => true
  | a :: as => tagLe K a && tagLeL K as
end

mutual
def rsA (look : Nat → Option (List AV × List Nat)) (K : Nat) : AV → Option (AV × List Nat)
  | .ref id off => match look id with
    | some (cs, rd) => some (.lit K (cs.drop off), id :: rd)
    | none => none
  | .rsl id off len cap => match look id with
    | some (cs, rd) => some (.lsl false K (cs.drop off) len cap, id :: rd)
    | none => none
  | .func fn fs cs => match rsL look K fs, rsL look K cs with
    | some (fs', r1), some (cs', r2) => some (.func fn fs' cs', r1 ++ r2)
    | _, _ => none
  | .iface t v => match rsA look K v with
    | some (v', r) => some (.iface t v', r)
    | none => none
  | .agg cs => match rsL look K cs with
    | some (cs', r) => some (.agg cs', r)
    | none => none
  | .tup cs => match rsL look K cs with
    | some (cs', r) => some (.tup cs', r)
    | none => none
  | a => some (a, [])
def rsL (look : Nat → Option (List AV × List Nat)) (K : Nat) : List AV → Option (List AV × List Nat)
  | [] => some ([], [])
  | a :: as => match rsA look K a, rsL look K as with
    | some (a', r1), some (as', r2) => some (a' :: as', r1 ++ r2)
    | _, _ => none
end

def rsLook (g : Nat → Option AObj) (K : Nat) : Nat → Nat → Option (List AV × List Nat)
  | 0, _ => none
  | n + 1, id => match g id with
    | some (.cells cs _ _) => match rsL (rsLook g K n) K cs with
      | some (cs', rd) => if tagLeL K cs' = true then some (cs', rd) else none
      | none => none
    | none => none

variable {P : Program} {G : Nat → Option (List AV)} {T : Tab}

theorem tagLeL_mem {K : Nat} : ∀ {as : List AV}, tagLeL K as = true → ∀ a ∈ as, tagLe K a = true
  | a :: as, h, x, hx => by
    simp only [tagLeL, Bool.and_eq_true] at h
    rcases List.mem_cons.1 hx with rfl | hx
    · exact h.1
    · exact tagLeL_mem h.2 x hx

mutual
theorem Rd.tagged {w : World} {S : Nat → Nat → Prop} {φ φ' : Nat → Option Nat} {K : Nat} : ∀ (a : AV) (v : Value), Rd P w S φ a v → tagLe K a = true → Rd P w (fun j c => j ≤ K ∧ S j c) φ' a v
  | .bool _, _, h, _ | .int _ _, _, h, _ | .str _, _, h, _ | .nilp, _, h, _ | .nilf, _, h, _ | .nili, _, h, _ => by simp only [Rd] at h ⊢; exact h
  | .any, _, _, _ => by simp only [Rd]
  | .lit k cs, v, h, ht => by
    simp only [tagLe, decide_eq_true_eq] at ht
    simp only [Rd] at h ⊢
    obtain ⟨b, off, rfl, hs, hr⟩ := h
    refine ⟨b, off, rfl, ⟨ht, hs⟩, hr.keep (S' := fun j c => j ≤ k ∧ j ≤ K ∧ S j c) (φ' := noId) ⟨fun j c hj => ⟨hj.1, Nat.le_trans hj.1 ht, hj.2⟩, fun _ _ _ _ _ h => h, (fun _ _ _ hn _ => by cases hn), (fun _ _ hn => by cases hn)⟩ ⟨k, Nat.le_refl _, hs⟩ cs off⟩
  | .ref _ _, _, _, ht | .rsl _ _ _ _, _, _, ht => by simp [tagLe] at ht
  | .lsl nl k cs len cap, v, h, ht => by
    simp only [Rd] at h ⊢
    cases nl
    · simp only [tagLe, Bool.or_false, decide_eq_true_eq] at ht
      simp only [Bool.false_eq_true, if_false] at h ⊢
      rcases h with ⟨b, off, c, rfl, hs, hr, hl⟩ | h
      case inr => exact .inr h
      refine .inl ⟨b, off, c, rfl, ⟨ht, hs⟩, hr.keep (S' := fun j c => j ≤ k ∧ j ≤ K ∧ S j c) (φ' := noId) ⟨fun j c hj => ⟨hj.1, Nat.le_trans hj.1 ht, hj.2⟩, fun _ _ _ _ _ h => h, (fun _ _ _ hn _ => by cases hn), (fun _ _ hn => by cases hn)⟩ ⟨k, Nat.le_refl _, hs⟩ cs off, hl⟩
    · simpa using h
  | .func fn fs cs, v, h, ht => by
    simp only [tagLe, Bool.and_eq_true] at ht
    simp only [Rd] at h ⊢
    obtain ⟨vs, ws, rfl, h1, h2⟩ := h
    exact ⟨vs, ws, rfl, RdL.tagged fs vs h1 ht.1, RdL.tagged cs ws h2 ht.2⟩
  | .iface t x, v, h, ht => by
    simp only [tagLe] at ht
    simp only [Rd] at h ⊢
    obtain ⟨u, rfl, h1⟩ := h
    exact ⟨u, rfl, Rd.tagged x u h1 ht⟩
  | .agg cs, v, h, ht => by
    simp only [tagLe] at ht
    simp only [Rd] at h ⊢
    obtain ⟨vs, rfl, h1⟩ := h
    exact ⟨vs, rfl, RdL.tagged cs vs h1 ht⟩
  | .tup cs, v, h, ht => by
    simp only [tagLe] at ht
    simp only [Rd] at h ⊢
    obtain ⟨vs, rfl, h1⟩ := h
    exact ⟨vs, rfl, RdL.tagged cs vs h1 ht⟩
theorem RdL.tagged {w : World} {S : Nat → Nat → Prop} {φ φ' : Nat → Option Nat} {K : Nat} : ∀ (as : List AV) (vs : List Value), RdL P w S φ as vs → tagLeL K as = true → RdL P w (fun j c => j ≤ K ∧ S j c) φ' as vs
  | [], _, h, _ => by simp only [RdL] at h ⊢; exact h
  | a :: as, l, h, ht => by
    simp only [tagLeL, Bool.and_eq_true] at ht
    simp only [RdL] at h ⊢
    obtain ⟨v, vs, rfl, h1, h2⟩ := h
    exact ⟨v, vs, rfl, Rd.tagged a v h1 ht.1, RdL.tagged as vs h2 ht.2⟩
end

theorem rsA_one {look : Nat → Option (List AV × List Nat)} {K : Nat} {a a' : AV} {rd : List Nat} (h : rsA look K a = some (a', rd)) : a'.one = a.one := by
  cases a <;> simp only [rsA] at h <;> (try split at h) <;> (try cases h) <;> rfl

/-- What the look-up of own objects has to give. -/
def LookOk (P : Program) (w : World) (S' : Nat → Nat → Prop) (φ : Nat → Option Nat) (K : Nat) (look : Nat → Option (List AV × List Nat)) : Prop :=
  ∀ id cs rd, look id = some (cs, rd) → ∀ b, φ id = some b → S' K b ∧ RdAt P w (fun j c => j ≤ K ∧ S' j c) noId cs b 0

mutual
theorem rsA_rd {w : World} {S S' : Nat → Nat → Prop} {φ : Nat → Option Nat} {K : Nat} {look : Nat → Option (List AV × List Nat)} (hS : ∀ k b, S k b → S' k b) (hl : LookOk P w S' φ K look) :
    ∀ (a a' : AV) (rd : List Nat) (v : Value), rsA look K a = some (a', rd) → Rd P w S φ a v → Rd P w S' noId a' v
  | .any, a', rd, v, h, _ => by
    simp only [rsA, Option.some.injEq, Prod.mk.injEq] at h
    obtain ⟨rfl, rfl⟩ := h
    simp only [Rd]
  | .ref id off, a', rd, v, h, hr => by
    simp only [rsA] at h
    split at h <;> cases h
    rename_i cs rd' hk
    simp only [Rd] at hr ⊢
    obtain ⟨b, hb, rfl⟩ := hr
    obtain ⟨h1, h2⟩ := hl id cs rd' hk b hb
    exact ⟨b, off, rfl, h1, by simpa using h2.drop off⟩
  | .rsl id off len cap, a', rd, v, h, hr => by
    simp only [rsA] at h
    split at h <;> cases h
    rename_i cs rd' hk
    simp only [Rd, Bool.false_eq_true, if_false] at hr ⊢
    obtain ⟨b, c, hb, rfl, hlc, hcc⟩ := hr
    obtain ⟨h1, h2⟩ := hl id cs rd' hk b hb
    exact .inl ⟨b, off, c, rfl, h1, by simpa using h2.drop off, hlc, fun m hm => by subst hm; exact hcc⟩
  | .func fn fs cs, a', rd, v, h, hr => by
    simp only [rsA] at h
    split at h <;> cases h
    rename_i fs' r1 cs' r2 h1 h2
    simp only [Rd] at hr ⊢
    obtain ⟨vs, ws, rfl, q1, q2⟩ := hr
    exact ⟨vs, ws, rfl, rsL_rd hS hl fs fs' r1 vs h1 q1, rsL_rd hS hl cs cs' r2 ws h2 q2⟩
  | .iface t x, a', rd, v, h, hr => by
    simp only [rsA] at h
    split at h <;> cases h
    rename_i x' h1
    simp only [Rd] at hr ⊢
    obtain ⟨u, rfl, q1⟩ := hr
    exact ⟨u, rfl, rsA_rd hS hl x x' _ u h1 q1⟩
  | .agg cs, a', rd, v, h, hr => by
    simp only [rsA] at h
    split at h <;> cases h
    rename_i cs' h1
    simp only [Rd] at hr ⊢
    obtain ⟨vs, rfl, q1⟩ := hr
    exact ⟨vs, rfl, rsL_rd hS hl cs cs' _ vs h1 q1⟩
  | .tup cs, a', rd, v, h, hr => by
    simp only [rsA] at h
    split at h <;> cases h
    rename_i cs' h1
    simp only [Rd] at hr ⊢
    obtain ⟨vs, rfl, q1⟩ := hr
    exact ⟨vs, rfl, rsL_rd hS hl cs cs' _ vs h1 q1⟩
  | .bool _, _, _, _, h, hr | .int _ _, _, _, _, h, hr | .str _, _, _, _, h, hr | .nilp, _, _, _, h, hr | .nilf, _, _, _, h, hr | .nili, _, _, _, h, hr => by
    simp only [rsA, Option.some.injEq, Prod.mk.injEq] at h
    obtain ⟨rfl, _⟩ := h
    simp only [Rd] at hr ⊢; exact hr
  | .lit k cs, _, _, v, h, hr => by
    simp only [rsA, Option.some.injEq, Prod.mk.injEq] at h
    obtain ⟨rfl, _⟩ := h
    simp only [Rd] at hr ⊢
    obtain ⟨b, off, rfl, hs, hr⟩ := hr
    exact ⟨b, off, rfl, hS _ _ hs, hr.keep (S' := fun j c => j ≤ k ∧ S' j c) (φ' := noId) ⟨fun j c hj => ⟨hj.1, hS _ _ hj.2⟩, fun _ _ _ _ _ h => h, (fun _ _ _ hn _ => by cases hn), (fun _ _ hn => by cases hn)⟩ ⟨k, Nat.le_refl _, hs⟩ cs off⟩
  | .lsl nl k cs len cap, _, _, v, h, hr => by
    simp only [rsA, Option.some.injEq, Prod.mk.injEq] at h
    obtain ⟨rfl, _⟩ := h
    simp only [Rd] at hr ⊢
    cases nl
    · simp only [Bool.false_eq_true, if_false] at hr ⊢
      rcases hr with ⟨b, off, c, rfl, hs, hr, hl⟩ | hr
      case inr => exact .inr hr
      exact .inl ⟨b, off, c, rfl, hS _ _ hs, hr.keep (S' := fun j c => j ≤ k ∧ S' j c) (φ' := noId) ⟨fun j c hj => ⟨hj.1, hS _ _ hj.2⟩, fun _ _ _ _ _ h => h, (fun _ _ _ hn _ => by cases hn), (fun _ _ hn => by cases hn)⟩ ⟨k, Nat.le_refl _, hs⟩ cs off, hl⟩
    · simpa using hr
theorem rsL_rd {w : World} {S S' : Nat → Nat → Prop} {φ : Nat → Option Nat} {K : Nat} {look : Nat → Option (List AV × List Nat)} (hS : ∀ k b, S k b → S' k b) (hl : LookOk P w S' φ K look) :
    ∀ (as as' : List AV) (rd : List Nat) (vs : List Value), rsL look K as = some (as', rd) → RdL P w S φ as vs → RdL P w S' noId as' vs
  | [], as', rd, vs, h, hr => by
    simp only [rsL, Option.some.injEq, Prod.mk.injEq] at h
    obtain ⟨rfl, _⟩ := h
    simp only [RdL] at hr ⊢; exact hr
  | a :: as, as', rd, vs, h, hr => by
    simp only [rsL] at h
    split at h <;> cases h
    rename_i a' r1 as'' r2 h1 h2
    simp only [RdL] at hr ⊢
    obtain ⟨v, vs, rfl, q1, q2⟩ := hr
    exact ⟨v, vs, rfl, rsA_rd hS hl a a' r1 v h1 q1, rsL_rd hS hl as as'' r2 vs h2 q2⟩
end

theorem rsL_get {look : Nat → Option (List AV × List Nat)} {K : Nat} : ∀ {as as' : List AV} {rd : List Nat}, rsL look K as = some (as', rd) → as'.length = as.length ∧ ∀ (i : Nat) (a' : AV), as'[i]? = some a' → ∃ a rd', as[i]? = some a ∧ rsA look K a = some (a', rd')
  | [], as', rd, h => by
    simp only [rsL, Option.some.injEq, Prod.mk.injEq] at h
    obtain ⟨rfl, _⟩ := h
    simp
  | a :: as, as', rd, h => by
    simp only [rsL] at h
    split at h <;> cases h
    rename_i a' r1 as'' r2 h1 h2
    obtain ⟨q1, q2⟩ := rsL_get h2
    refine ⟨by simp [q1], fun i x hx => ?_⟩
    cases i with
    | zero => simp at hx; subst hx; exact ⟨a, r1, by simp, h1⟩
    | succ i => simp at hx; obtain ⟨y, rd', hy, hr⟩ := q2 i x hx; exact ⟨y, rd', by simpa using hy, hr⟩

/-- The look-up lays open what the memory holds, if the own blocks are taken among those that nobody writes, under the tag K. -/
theorem rsLook_ok {C : Ctx} {g : Nat → Option AObj} {d K : Nat} {S' : Nat → Nat → Prop} (hI : Inv P G C g d) (hS : ∀ k b, C.S k b → S' k b) (hown : ∀ id o b, g id = some o → C.φ id = some b → S' K b) :
    ∀ n, LookOk P C.w S' C.φ K (rsLook g K n)
  | 0 => fun id cs rd h => by simp [rsLook] at h
  | n + 1 => fun id cs rd h b hb => by
    simp only [rsLook] at h
    split at h <;> try cases h
    rename_i cs0 e gr hg
    split at h <;> try cases h
    rename_i cs' rd' hr
    split at h <;> cases h
    rename_i ht
    obtain ⟨b', hb', _, ho⟩ := hI.obj id _ hg
    rw [hb] at hb'; cases hb'
    refine ⟨hown id _ b hg hb, ?_⟩
    have hat := ho.at 0
    rw [List.drop_zero] at hat
    obtain ⟨q1, q2⟩ := rsL_get hr
    refine .mk fun i a' ha' => ?_
    obtain ⟨a, rd1, ha, hra⟩ := q2 i a' ha'
    obtain ⟨h1, v, h2, h3⟩ := hat.get ha
    refine ⟨by rw [rsA_one hra]; exact h1, v, h2, ?_⟩
    exact Rd.tagged a' v (rsA_rd hS (rsLook_ok hI hS hown n) a a' rd1 v hra h3) (tagLeL_mem ht a' (List.mem_of_getElem? ha'))

def Fresh (C : Ctx) (n : Nat) : Prop := ∀ id, n ≤ id → C.φ id = none

def OutRd (P : Program) (C : Ctx) : AOut → Ending → Prop
  | .ret v, e => ∃ u, e = .returned u ∧ Rd P C.w C.S C.φ v u
  | .panic v, e => ∃ u, e = .panicked [{ v := u, recovered := false }] ∧ Rd P C.w C.S C.φ v u

/-- What a call leaves. -/
def CPost (P : Program) (G : Nat → Option (List AV)) (C : Ctx) (out : AOut) (σ' : St) (e : Ending) (w : World) : Prop :=
  ∃ C' : Ctx, C'.w = w ∧ Ext C C' ∧ Inv P G C' σ'.g σ'.dep ∧ Fresh C' σ'.objs.length ∧ OutRd P C' out e

/-- A CALL on abstract values: from whatever memory reads so, the model's call comes to what reads as 'out', 'σ''. -/
def CallOk (P : Program) (G : Nat → Option (List AV)) (f : FuncId) (args : List AV) (σ : St) (out : AOut) (σ' : St) : Prop :=
  ∀ (C : Ctx) (vs : List Value), Inv P G C σ.g σ.dep → Fresh C σ.objs.length → RdL P C.w C.S C.φ args vs → Calls P f ⟨vs⟩ C.w (CPost P G C out σ')

/-- What stays for one who hands all that is his over. -/
structure ExtX (C C' : Ctx) : Prop where
  os : C'.w.os = C.w.os
  tape : C'.w.tape = C.w.tape
  output : C'.w.output = C.w.output
  size : C.w.heap.size ≤ C'.w.heap.size
  tag : ∀ k b, C.S k b → C'.S k b
  prot : ∀ k b, C.S k b → C'.w.heap[b]? = C.w.heap[b]?
  shp : ∀ b x, C.w.shape? b = some x → C'.w.shape? b = some x
  snew : ∀ k b, C'.S k b → C.S k b ∨ C.w.heap.size ≤ b ∨ ∃ id, C.φ id = some b
  pnew : ∀ id b, C'.φ id = some b → C.w.heap.size ≤ b ∨ ∃ j, C.φ j = some b
  frm : ∀ b, b < C.w.heap.size → (∀ id, C.φ id ≠ some b) → C'.w.heap[b]? = C.w.heap[b]?

theorem Ext.x {C C' : Ctx} (h : Ext C C') : ExtX C C' := ⟨h.os, h.tape, h.output, h.size, h.tag, h.prot, h.shp, h.snew, fun id b hb => by
  rcases h.pnew id b hb with h | h | h
  · exact .inr ⟨id, h⟩
  · exact .inl h
  · exact .inr h, h.frm⟩

/-- A CALL that is handed all the own objects of its state, and gives back others. -/
def XferOk (P : Program) (G : Nat → Option (List AV)) (f : FuncId) (args : List AV) (σ : St) (out : AOut) (σ' : St) : Prop :=
  ∀ (C : Ctx) (vs : List Value), Inv P G C σ.g σ.dep → Fresh C σ.objs.length → RdL P C.w C.S C.φ args vs → Calls P f ⟨vs⟩ C.w (fun e w => ∃ C' : Ctx, C'.w = w ∧ ExtX C C' ∧ Inv P G C' σ'.g σ'.dep ∧ Fresh C' σ'.objs.length ∧ OutRd P C' out e)

theorem CallOk.xfer {f : FuncId} {args : List AV} {σ σ' : St} {out : AOut} (h : CallOk P G f args σ out σ') : XferOk P G f args σ out σ' :=
  fun C vs hI hF ha => (h C vs hI hF ha).mono fun _ _ ⟨C', h1, h2, h3, h4, h5⟩ => ⟨C', h1, h2.x, h3, h4, h5⟩

/-- Depth of the look-up: more than any nest of slices that a call hands on. -/
def rsDepth : Nat := 64

def AOut.val : AOut → AV
  | .ret v => v
  | .panic v => v

/-- What is asked of a caller's proof: one thing after the other. -/
def AllP : List Prop → Prop
  | [] => True
  | p :: ps => p ∧ AllP ps

theorem AllP.append : ∀ {ps qs : List Prop}, AllP (ps ++ qs) ↔ AllP ps ∧ AllP qs
  | [], qs => by simp [AllP]
  | p :: ps, qs => by simp [AllP, AllP.append (ps := ps), and_assoc]

abbrev Ask := FuncId → List AV → St → Option (AOut × St × List Prop)

def AskOk (P : Program) (G : Nat → Option (List AV)) (call : Ask) : Prop :=
  ∀ f args σ out σ' ps, call f args σ = some (out, σ', ps) → AllP ps → XferOk P G f args σ out σ'

def emptySt (d : Nat) : St := ⟨[], d⟩

end Go.Vid

/-
A call that takes over all own objects that it is handed; what is left of them, and what it made, comes back as own objects under new numbers.
-/
namespace Go.Vid

variable {P : Program} {G : Nat → Option (List AV)} {T : Tab}

/-! own objects under other numbers -/
mutual
def rnA (ρ : Nat → Option Nat) : AV → Option AV
  | .ref id off => match ρ id with
    | some j => some (.ref j off)
    | none => none
  | .rsl id off len cap => match ρ id with
    | some j => some (.rsl j off len cap)
    | none => none
  | .func fn fs cs => match rnL ρ fs, rnL ρ cs with
    | some fs', some cs' => some (.func fn fs' cs')
    | _, _ => none
  | .iface t v => match rnA ρ v with
    | some v' => some (.iface t v')
    | none => none
  | .agg cs => match rnL ρ cs with
    | some cs' => some (.agg cs')
    | none => none
  | .tup cs => match rnL ρ cs with
    | some cs' => some (.tup cs')
    | none => none
  | a => some a
def rnL (ρ : Nat → Option Nat) : List AV → Option (List AV)
  | [] => some []
  | a :: as => match rnA ρ a, rnL ρ as with
    | some a', some as' => some (a' :: as')
    | _, _ => none
end

mutual
theorem rnA_rd {w : World} {S : Nat → Nat → Prop} {φ φ' ρ : Nat → Option Nat} (hρ : ∀ id j b, ρ id = some j → φ id = some b → φ' j = some b) :
    ∀ (a a' : AV) (v : Value), rnA ρ a = some a' → Rd P w S φ a v → Rd P w S φ' a' v
  | .ref id off, a', v, h, hr => by
    simp only [rnA] at h
    split at h <;> cases h
    rename_i j hj
    simp only [Rd] at hr ⊢
    obtain ⟨b, hb, rfl⟩ := hr
    exact ⟨b, hρ _ _ _ hj hb, rfl⟩
  | .rsl id off len cap, a', v, h, hr => by
    simp only [rnA] at h
    split at h <;> cases h
    rename_i j hj
    simp only [Rd] at hr ⊢
    obtain ⟨b, c, hb, rfl, hl⟩ := hr
    exact ⟨b, c, hρ _ _ _ hj hb, rfl, hl⟩
  | .func fn fs cs, a', v, h, hr => by
    simp only [rnA] at h
    split at h <;> cases h
    rename_i fs' cs' h1 h2
    simp only [Rd] at hr ⊢
    obtain ⟨vs, ws, rfl, q1, q2⟩ := hr
    exact ⟨vs, ws, rfl, rnL_rd hρ fs fs' vs h1 q1, rnL_rd hρ cs cs' ws h2 q2⟩
  | .iface t x, a', v, h, hr => by
    simp only [rnA] at h
    split at h <;> cases h
    rename_i x' h1
    simp only [Rd] at hr ⊢
    obtain ⟨u, rfl, q1⟩ := hr
    exact ⟨u, rfl, rnA_rd hρ x x' u h1 q1⟩
  | .agg cs, a', v, h, hr => by
    simp only [rnA] at h
    split at h <;> cases h
    rename_i cs' h1
    simp only [Rd] at hr ⊢
    obtain ⟨vs, rfl, q1⟩ := hr
    exact ⟨vs, rfl, rnL_rd hρ cs cs' vs h1 q1⟩
  | .tup cs, a', v, h, hr => by
    simp only [rnA] at h
    split at h <;> cases h
    rename_i cs' h1
    simp only [Rd] at hr ⊢
    obtain ⟨vs, rfl, q1⟩ := hr
    exact ⟨vs, rfl, rnL_rd hρ cs cs' vs h1 q1⟩
  | .bool _, _, _, h, hr | .int _ _, _, _, h, hr | .str _, _, _, h, hr | .nilp, _, _, h, hr | .nilf, _, _, h, hr | .nili, _, _, h, hr | .any, _, _, h, hr | .lit _ _, _, _, h, hr | .lsl _ _ _ _ _, _, _, h, hr => by
    simp only [rnA, Option.some.injEq] at h
    subst h
    simp only [Rd] at hr ⊢ <;> exact hr
theorem rnL_rd {w : World} {S : Nat → Nat → Prop} {φ φ' ρ : Nat → Option Nat} (hρ : ∀ id j b, ρ id = some j → φ id = some b → φ' j = some b) :
    ∀ (as as' : List AV) (vs : List Value), rnL ρ as = some as' → RdL P w S φ as vs → RdL P w S φ' as' vs
  | [], as', vs, h, hr => by
    simp only [rnL, Option.some.injEq] at h
    subst h
    simpa only [RdL] using hr
  | a :: as, as', vs, h, hr => by
    simp only [rnL] at h
    split at h <;> cases h
    rename_i a' as2 h1 h2
    simp only [RdL] at hr ⊢
    obtain ⟨v, vs, rfl, q1, q2⟩ := hr
    exact ⟨v, vs, rfl, rnA_rd hρ a a' v h1 q1, rnL_rd hρ as as2 vs h2 q2⟩
end

theorem rnA_one {ρ : Nat → Option Nat} {a a' : AV} (h : rnA ρ a = some a') : a'.one = a.one := by
  cases a <;> simp only [rnA] at h <;> (try split at h) <;> (try cases h) <;> rfl

theorem rnL_len {ρ : Nat → Option Nat} : ∀ {as as' : List AV}, rnL ρ as = some as' → as'.length = as.length ∧ ((∀ a ∈ as, a.one = true) → ∀ a ∈ as', a.one = true)
  | [], as', h => by
    simp only [rnL, Option.some.injEq] at h
    subst h
    exact ⟨rfl, fun h => h⟩
  | a :: as, as', h => by
    simp only [rnL] at h
    split at h <;> cases h
    rename_i a' as2 h1 h2
    obtain ⟨q1, q2⟩ := rnL_len h2
    refine ⟨by simp [q1], fun hh x hx => ?_⟩
    rcases List.mem_cons.1 hx with rfl | hx
    · rw [rnA_one h1]; exact hh a (by simp)
    · exact q2 (fun y hy => hh y (by simp [hy])) x hx

def rnO (ρ : Nat → Option Nat) : Option AObj → Option (Option AObj)
  | none => some none
  | some (.cells cs e gr) => match rnL ρ cs with
    | some cs' => some (some (.cells cs' e gr))
    | none => none

def rnOs (ρ : Nat → Option Nat) : List (Option AObj) → Option (List (Option AObj))
  | [] => some []
  | o :: os => match rnO ρ o, rnOs ρ os with
    | some o', some os' => some (o' :: os')
    | _, _ => none

theorem rnOs_get {ρ : Nat → Option Nat} : ∀ {os os' : List (Option AObj)}, rnOs ρ os = some os' → os'.length = os.length ∧ ∀ (i : Nat) (o' : Option AObj), os'[i]? = some o' → ∃ o, os[i]? = some o ∧ rnO ρ o = some o'
  | [], os', h => by
    simp only [rnOs, Option.some.injEq] at h
    subst h
    exact ⟨rfl, by simp⟩
  | o :: os, os', h => by
    simp only [rnOs] at h
    split at h <;> cases h
    rename_i o' os2 h1 h2
    obtain ⟨q1, q2⟩ := rnOs_get h2
    refine ⟨by simp [q1], fun i x hx => ?_⟩
    cases i with
    | zero => simp at hx; subst hx; exact ⟨o, by simp, h1⟩
    | succ i => simp at hx; simpa using q2 i x hx

theorem rnO_rd {w : World} {S : Nat → Nat → Prop} {φ φ' ρ : Nat → Option Nat} (hρ : ∀ id j b, ρ id = some j → φ id = some b → φ' j = some b) {o o' : AObj} {b : Nat} (h : rnO ρ (some o) = some (some o')) (hr : ObjRd P w S φ o b) : ObjRd P w S φ' o' b := by
  cases o with
  | cells cs e gr =>
    simp only [rnO] at h
    split at h <;> cases h
    rename_i cs' hcs
    obtain ⟨arr, fz, q1, q2, q3, q4, q5, q6⟩ := hr
    obtain ⟨hl, ho⟩ := rnL_len hcs
    exact ⟨arr, fz, q1, q2, by rw [hl]; exact q3, fun hh => by rw [hl]; exact q4 hh, by rw [hl]; exact rnL_rd hρ cs cs' _ hcs q5, ho q6⟩

mutual
def refsA : AV → List Nat
  | .ref id _ => [id]
  | .rsl id _ _ _ => [id]
  | .func _ fs cs => refsL fs ++ refsL cs
  | .iface _ v => refsA v
  | .agg cs | .tup cs => refsL cs
  | _ => []
def refsL : List AV → List Nat
  | [] => []
  | a :: as => refsA a ++ refsL as
end

/-- All own objects that are reached. -/
def reach (g : Nat → Option AObj) : Nat → List Nat → List Nat → Option (List Nat)
  | _, [], acc => some acc
  | 0, _ :: _, _ => none
  | n + 1, i :: todo, acc => match acc.contains i with
    | true => reach g n todo acc
    | false => match g i with
      | some (.cells cs _ _) => reach g n (refsL cs ++ todo) (acc ++ [i])
      | none => reach g n todo (acc ++ [i])

def idxIn : List Nat → Nat → Nat → Option Nat
  | [], _, _ => none
  | k :: r, i, n => match Nat.beq k i with
    | true => some n
    | false => idxIn r i (n + 1)

theorem idxIn_get : ∀ {R : List Nat} {i n j : Nat}, idxIn R i n = some j → n ≤ j ∧ R[j - n]? = some i
  | [], _, _, _, h => by simp [idxIn] at h
  | k :: r, i, n, j, h => by
    simp only [idxIn] at h
    split at h
    · rename_i hb
      cases h
      have := Nat.eq_of_beq_eq_true hb
      subst this
      exact ⟨Nat.le_refl _, by simp⟩
    · obtain ⟨h1, h2⟩ := idxIn_get h
      refine ⟨by omega, ?_⟩
      rw [show j - n = (j - (n + 1)) + 1 by omega]
      simpa using h2

def nodupB : List Nat → Bool
  | [] => true
  | a :: r => !(r.contains a) && nodupB r

theorem nodupB_get : ∀ {R : List Nat}, nodupB R = true → ∀ (i j x : Nat), R[i]? = some x → R[j]? = some x → i = j
  | [], _, i, j, x, h, _ => by simp at h
  | a :: r, h, i, j, x, hi, hj => by
    simp only [nodupB, Bool.and_eq_true, Bool.not_eq_true'] at h
    have hn : a ∉ r := by simpa using h.1
    cases i <;> cases j
    · rfl
    · simp at hi hj; subst hi; exact absurd (List.mem_of_getElem? hj) hn
    · simp at hi hj; subst hj; exact absurd (List.mem_of_getElem? hi) hn
    · simp at hi hj; rw [nodupB_get h.2 _ _ x hi hj]

def reachFuel : Nat := 1000

structure OwnOut where
  out : AOut
  ups : List (Nat × Option AObj)
  rds : List Nat
  m : Nat
  ps : List Prop

def AOut.map (f : AV → Option AV) : AOut → Option AOut
  | .ret v => match f v with
    | some v' => some (.ret v')
    | none => none
  | .panic v => match f v with
    | some v' => some (.panic v')
    | none => none

def ownCall (call : Ask) (f : FuncId) (args : List AV) (g : Nat → Option AObj) (h dep : Nat) : Option OwnOut :=
  match reach g reachFuel (refsL args) [] with
  | none => none
  | some R => match nodupB R && R.all (fun i => (g i).isSome), rnL (fun i => idxIn R i 0) args, rnOs (fun i => idxIn R i 0) (R.map g) with
    | true, some args', some objs => match call f args' ⟨objs, dep⟩ with
      | none => none
      | some (out, σ1, ps) => match AOut.map (rnA fun i => some (h + i)) out, rnOs (fun i => some (h + i)) σ1.objs with
        | some out', some objs' => some ⟨out', R.map (fun i => (i, none)) ++ (List.range objs'.length).map (fun k => (h + k, (objs'[k]?).getD none)), R, objs'.length, (σ1.dep = dep) :: ps⟩
        | _, _ => none
    | _, _, _ => none


theorem applyUps_map (G' : Nat → Option AObj) : ∀ (L : List Nat) (g : Nat → Option AObj) (i : Nat), applyUps g (L.map fun i => (i, G' i)) i = if i ∈ L then G' i else g i
  | [], g, i => by simp [applyUps]
  | k :: L, g, i => by
    simp only [List.map_cons, applyUps]
    rw [applyUps_map G' L]
    by_cases h : i ∈ L
    · simp [h]
    · by_cases e : i = k
      · subst e; simp
      · simp [h, e, upd]

theorem applyUps_append : ∀ (us vs : List (Nat × Option AObj)) (g : Nat → Option AObj), applyUps g (us ++ vs) = applyUps (applyUps g us) vs
  | [], _, _ => rfl
  | (i, o) :: us, vs, g => by simp only [List.cons_append, applyUps]; exact applyUps_append us vs _

theorem ownCall_core {call : Ask} (hcall : AskOk P G call) {f : FuncId} {args : List AV} {g : Nat → Option AObj} {hd dep : Nat} {r : OwnOut} (h : ownCall call f args g hd dep = some r) (hps : AllP r.ps) {C : Ctx} {vs : List Value}
    (hI : Inv P G C g dep) (hfr : ∀ k, k < r.m → C.φ (hd + k) = none) (ha : RdL P C.w C.S C.φ args vs) :
    Calls P f ⟨vs⟩ C.w (fun e w => ∃ C' : Ctx, C'.w = w ∧ Ext C C' ∧ Inv P G C' (applyUps g r.ups) dep ∧ (∀ id, C'.φ id = C.φ id ∨ (hd ≤ id ∧ id < hd + r.m)) ∧ OutRd P C' r.out e) := by
  unfold ownCall at h
  split at h <;> try cases h
  rename_i R hreach
  split at h <;> try cases h
  rename_i args' objs hnd hargs hobjs
  split at h <;> try cases h
  rename_i out σ1 ps hc
  split at h <;> cases h
  rename_i out' objs' hout hobjs'
  obtain ⟨hdep, hps⟩ := hps
  rw [Bool.and_eq_true] at hnd
  obtain ⟨hnd, hsome⟩ := hnd
  have hsome : ∀ i ∈ R, ∃ o, g i = some o := fun i hi => Option.isSome_iff_exists.1 (List.all_eq_true.1 hsome i hi)
  simp only at hfr ⊢
  obtain ⟨n, hn⟩ : ∃ n, objs'.length = n := ⟨_, rfl⟩
  rw [hn] at hfr ⊢
  obtain ⟨hl1, hg1⟩ := rnOs_get hobjs
  obtain ⟨hl2, hg2⟩ := rnOs_get hobjs'
  let φ1 : Nat → Option Nat := fun j => (R[j]?).bind C.φ
  have hφ1 : ∀ j b, φ1 j = some b → ∃ id, R[j]? = some id ∧ C.φ id = some b := by
    intro j b hb
    simp only [φ1] at hb
    cases hr : R[j]? with
    | none => simp [hr] at hb
    | some id => rw [hr] at hb; exact ⟨id, rfl, hb⟩
  have hρ : ∀ id j b, idxIn R id 0 = some j → C.φ id = some b → φ1 j = some b := by
    intro id j b hi hb
    obtain ⟨_, h2⟩ := idxIn_get hi
    rw [Nat.sub_zero] at h2
    simp only [φ1, h2, Option.bind_some, hb]
  let C1 : Ctx := ⟨C.w, C.S, φ1⟩
  have hobj1 : ∀ j o, (⟨objs, dep⟩ : St).g j = some o → ∃ id o0, R[j]? = some id ∧ g id = some o0 ∧ rnO (fun i => idxIn R i 0) (some o0) = some (some o) := by
    intro j o hj
    simp only [St.g] at hj
    split at hj
    · rename_i x hx
      subst hj
      obtain ⟨o0, h1, h2⟩ := hg1 j _ hx
      simp only [List.getElem?_map, Option.map_eq_some_iff] at h1
      obtain ⟨id, h3, h4⟩ := h1
      cases o0 with
      | none => simp [rnO] at h2
      | some o0 => exact ⟨id, o0, h3, h4, h2⟩
    · cases hj
  have hI1 : Inv P G C1 (⟨objs, dep⟩ : St).g dep := by
    refine ⟨hI.lt, hI.dep, ?_, ?_, hI.glob⟩
    · intro j o hj
      obtain ⟨id, o0, h1, h2, h3⟩ := hobj1 j o hj
      obtain ⟨b, q1, q2, q3⟩ := hI.obj id o0 h2
      exact ⟨b, by simp only [C1, φ1, h1, Option.bind_some, q1], q2, rnO_rd hρ h3 q3⟩
    · intro i j b oi oj hi hj hbi hbj
      obtain ⟨id, o0, h1, h2, _⟩ := hobj1 i oi hi
      obtain ⟨id', o0', h1', h2', _⟩ := hobj1 j oj hj
      simp only [C1, φ1, h1, Option.bind_some] at hbi
      simp only [C1, φ1, h1', Option.bind_some] at hbj
      have := hI.inj id id' b o0 o0' h2 h2' hbi hbj
      subst this
      exact nodupB_get hnd i j id h1 h1'
  have hF1 : Fresh C1 (⟨objs, dep⟩ : St).objs.length := by
    intro j hj
    simp only [hl1, List.length_map] at hj
    simp only [C1, φ1, List.getElem?_eq_none hj, Option.bind_none]
  have hargs1 : RdL P C1.w C1.S C1.φ args' vs := rnL_rd hρ args args' vs hargs ha
  refine (hcall f args' ⟨objs, dep⟩ out σ1 ps hc hps C1 vs hI1 hF1 hargs1).mono fun e w' ⟨C2, hw, hE, hI2, hF2, ho⟩ => ?_
  subst hw
  rw [hdep] at hI2
  let φ' : Nat → Option Nat := fun id => if hd ≤ id ∧ id < hd + n then C2.φ (id - hd) else C.φ id
  let C' : Ctx := ⟨C2.w, C2.S, φ'⟩
  have hφnew : ∀ id, hd ≤ id → id < hd + n → C.φ id = none := fun id h1 h2 => by
    have := hfr (id - hd) (by omega)
    rwa [Nat.add_sub_cancel' h1] at this
  have hsnew : ∀ k b, C2.S k b → C.S k b ∨ C.w.heap.size ≤ b ∨ ∃ id, id ∈ R ∧ C.φ id = some b := by
    intro k b h
    rcases hE.snew k b h with h | h | ⟨j, h⟩
    · exact .inl h
    · exact .inr (.inl h)
    · obtain ⟨id, h1, h2⟩ := hφ1 j b h
      exact .inr (.inr ⟨id, List.mem_of_getElem? h1, h2⟩)
  have hX : Ext C C' := by
    refine ⟨hE.os, hE.tape, hE.output, hE.size, hE.tag, hE.prot, hE.shp, ?_, ?_, ?_, fun b hb hnb => hE.frm b hb fun j h => ?_⟩
    · intro id b hb
      show φ' id = some b
      simp only [φ']
      split
      · rename_i hh; rw [hφnew id hh.1 hh.2] at hb; cases hb
      · exact hb
    · intro k b h
      rcases hsnew k b h with h | h | ⟨id, _, h⟩
      · exact .inl h
      · exact .inr (.inl h)
      · exact .inr (.inr ⟨id, h⟩)
    · intro id b hb
      simp only [C', φ'] at hb
      split at hb
      · rcases hE.pnew _ b hb with h | ⟨j, h⟩
        · exact .inr (.inl h)
        · obtain ⟨id', _, h2⟩ := hφ1 j b h
          exact .inr (.inr ⟨id', h2⟩)
      · exact .inl hb
    · obtain ⟨id, _, h2⟩ := hφ1 j b h
      exact hnb id h2
  have hlen : σ1.objs.length = n := by omega
  have hρ' : ∀ id j b, some (hd + id) = some j → C2.φ id = some b → φ' j = some b := by
    intro id j b hj hb
    cases hj
    have hlt : id < n := by
      rcases Nat.lt_or_ge id n with h | h
      · exact h
      · have := hF2 id (by omega); rw [this] at hb; cases hb
    simp only [φ']
    rw [if_pos ⟨by omega, by omega⟩, Nat.add_sub_cancel_left]
    exact hb
  have hups : ∀ i, applyUps g (R.map (fun i => (i, none)) ++ (List.range n).map (fun k => (hd + k, (objs'[k]?).getD none))) i =
      if hd ≤ i ∧ i < hd + n then (objs'[i - hd]?).getD none else if i ∈ R then none else g i := by
    intro i
    rw [applyUps_append]
    have e1 : (List.range n).map (fun k => (hd + k, (objs'[k]?).getD none)) = ((List.range n).map (fun k => hd + k)).map fun i => (i, (objs'[i - hd]?).getD none) := by
      rw [List.map_map]
      refine List.map_congr_left fun k _ => ?_
      simp
    have e2 : R.map (fun i => (i, (none : Option AObj))) = R.map fun i => (i, (fun _ => none : Nat → Option AObj) i) := rfl
    rw [e1, applyUps_map (fun i => (objs'[i - hd]?).getD none), e2, applyUps_map (fun _ => none)]
    have e3 : i ∈ (List.range n).map (fun k => hd + k) ↔ hd ≤ i ∧ i < hd + n := by
      simp only [List.mem_map, List.mem_range]
      constructor
      · rintro ⟨k, hk, rfl⟩; omega
      · rintro ⟨h1, h2⟩; exact ⟨i - hd, by omega, by omega⟩
    simp only [e3]
  have hnew : ∀ i o, hd ≤ i → i < hd + n → (objs'[i - hd]?).getD none = some o → ∃ o0, σ1.g (i - hd) = some o0 ∧ rnO (fun i => some (hd + i)) (some o0) = some (some o) := by
    intro i o h1 h2 hio
    cases hx : objs'[i - hd]? with
    | none => simp [hx] at hio
    | some x =>
      rw [hx] at hio
      simp only [Option.getD_some] at hio
      subst hio
      obtain ⟨o0, q1, q2⟩ := hg2 _ _ hx
      cases o0 with
      | none => simp [rnO] at q2
      | some o0 => exact ⟨o0, by simp [St.g, q1], q2⟩
  have hobj : ∀ id o, applyUps g (R.map (fun i => (i, none)) ++ (List.range n).map (fun k => (hd + k, (objs'[k]?).getD none))) id = some o →
      ∃ b, φ' id = some b ∧ (∀ k, ¬ C2.S k b) ∧ ObjRd P C2.w C2.S φ' o b ∧ ((hd ≤ id ∧ id < hd + n) → C2.φ (id - hd) = some b ∧ ∃ o0, σ1.g (id - hd) = some o0) ∧ (¬ (hd ≤ id ∧ id < hd + n) → id ∉ R ∧ g id = some o ∧ C.φ id = some b) := by
    intro id o hid
    rw [hups] at hid
    by_cases hh : hd ≤ id ∧ id < hd + n
    · rw [if_pos hh] at hid
      obtain ⟨o0, q1, q2⟩ := hnew id o hh.1 hh.2 hid
      obtain ⟨b, p1, p2, p3⟩ := hI2.obj _ _ q1
      exact ⟨b, by simp only [φ']; rw [if_pos hh]; exact p1, p2, rnO_rd hρ' q2 p3, fun _ => ⟨p1, o0, q1⟩, fun h => absurd hh h⟩
    · rw [if_neg hh] at hid
      split at hid
      · cases hid
      · rename_i hnr
        obtain ⟨b, p1, p2, p3⟩ := hI.obj id o hid
        have hnb : ∀ j, C1.φ j ≠ some b := by
          intro j hj
          obtain ⟨id', r1, r2⟩ := hφ1 j b hj
          have hm := List.mem_of_getElem? r1
          obtain ⟨o', ho'⟩ := hsome id' hm
          have := hI.inj id id' b o o' hid ho' p1 r2
          subst this
          exact hnr hm
        refine ⟨b, hX.phi id b p1, ?_, p3.ext hX (hE.frm b p3.lt hnb), fun h => absurd h hh, fun _ => ⟨hnr, hid, p1⟩⟩
        intro k hk
        rcases hE.snew k b hk with h | h | ⟨j, h⟩
        · exact p2 k h
        · have := p3.lt; simp only [C1] at h; omega
        · exact hnb j h
  refine ⟨C', rfl, hX, ⟨hI2.lt, hI2.dep, ?_, ?_, hI2.glob⟩, ?_, ?_⟩
  · intro id o hid
    obtain ⟨b, q1, q2, q3, _⟩ := hobj id o hid
    exact ⟨b, q1, q2, q3⟩
  · intro i j b oi oj hi hj hbi hbj
    obtain ⟨b1, p1, p2, p3, p4, p5⟩ := hobj i oi hi
    obtain ⟨b2, r1, r2, r3, r4, r5⟩ := hobj j oj hj
    have e1 : b1 = b := Option.some.inj (p1.symm.trans hbi)
    have e2 : b2 = b := Option.some.inj (r1.symm.trans hbj)
    subst e1; subst e2
    -- a new number and an old one never lie in one block
    have mixed : ∀ x y, hd ≤ x ∧ x < hd + n → C2.φ (x - hd) = some b2 → y ∉ R → (∃ o, g y = some o) → C.φ y = some b2 → False := by
      rintro x y hx hφx hyR ⟨oy, hgy⟩ hφy
      rcases hE.pnew _ _ hφx with h | ⟨k, h⟩
      · obtain ⟨bb, t1, _, t3⟩ := hI.obj y oy hgy
        rw [hφy] at t1; cases t1
        have := t3.lt
        simp only [C1] at h
        omega
      · obtain ⟨id', u1, u2⟩ := hφ1 k b2 h
        have hm := List.mem_of_getElem? u1
        obtain ⟨o', ho'⟩ := hsome id' hm
        have := hI.inj y id' b2 oy o' hgy ho' hφy u2
        subst this
        exact hyR hm
    by_cases hi' : hd ≤ i ∧ i < hd + n <;> by_cases hj' : hd ≤ j ∧ j < hd + n
    · obtain ⟨a1, o1, a2⟩ := p4 hi'
      obtain ⟨c1, o2, c2⟩ := r4 hj'
      have := hI2.inj _ _ _ o1 o2 a2 c2 a1 c1
      omega
    · obtain ⟨h1, h2, h3⟩ := r5 hj'
      exact (mixed i j hi' (p4 hi').1 h1 ⟨_, h2⟩ h3).elim
    · obtain ⟨h1, h2, h3⟩ := p5 hi'
      exact (mixed j i hj' (r4 hj').1 h1 ⟨_, h2⟩ h3).elim
    · obtain ⟨_, a2, a3⟩ := p5 hi'
      obtain ⟨_, c2, c3⟩ := r5 hj'
      exact hI.inj i j _ oi oj a2 c2 a3 c3
  · intro id
    by_cases hh : hd ≤ id ∧ id < hd + n
    · exact .inr hh
    · left; show φ' id = C.φ id; simp only [φ', if_neg hh]
  · cases out with
    | ret v =>
      obtain ⟨u, rfl, hu⟩ := ho
      simp only [AOut.map] at hout
      split at hout <;> cases hout
      rename_i v' hv
      exact ⟨u, rfl, rnA_rd hρ' v v' u hv hu⟩
    | panic v =>
      obtain ⟨u, rfl, hu⟩ := ho
      simp only [AOut.map] at hout
      split at hout <;> cases hout
      rename_i v' hv
      exact ⟨u, rfl, rnA_rd hρ' v v' u hv hu⟩

end Go.Vid

/-
A call that borrows: own objects go to the callee under new numbers, and come back under their own.
-/
namespace Go.Vid

variable {P : Program} {G : Nat → Option (List AV)} {T : Tab}

def backN (R : List Nat) (h j : Nat) : Option Nat := match R[j]? with
  | some id => some id
  | none => some (h + (j - R.length))

def backV (R : List Nat) (h : Nat) (objs : List (Option AObj)) (i : Nat) : Option AObj := match idxIn R i 0 with
  | some k => (objs[k]?).getD none
  | none => (objs[i - h + R.length]?).getD none

def borrowCall (call : Ask) (f : FuncId) (args : List AV) (g : Nat → Option AObj) (h dep : Nat) : Option OwnOut :=
  match reach g reachFuel (refsL args) [] with
  | none => none
  | some R => match nodupB R && R.all (fun i => (g i).isSome && decide (i < h)), rnL (fun i => idxIn R i 0) args, rnOs (fun i => idxIn R i 0) (R.map g) with
    | true, some args', some objs => match call f args' ⟨objs, dep⟩ with
      | none => none
      | some (out, σ1, ps) => match AOut.map (rnA (backN R h)) out, rnOs (backN R h) σ1.objs with
        | some out', some objs' =>
          if R.length ≤ objs'.length then some ⟨out', (R ++ List.range' h (objs'.length - R.length)).map (fun i => (i, backV R h objs' i)), R, objs'.length - R.length, (σ1.dep = dep) :: ps⟩ else none
        | _, _ => none
    | _, _, _ => none

theorem borrowCall_core {call : Ask} {f : FuncId} (hcall : ∀ args σ out σ' ps, call f args σ = some (out, σ', ps) → AllP ps → CallOk P G f args σ out σ') {args : List AV} {g : Nat → Option AObj} {hd dep : Nat} {r : OwnOut} (h : borrowCall call f args g hd dep = some r) (hps : AllP r.ps) {C : Ctx} {vs : List Value}
    (hI : Inv P G C g dep) (hfr : ∀ k, k < r.m → C.φ (hd + k) = none) (ha : RdL P C.w C.S C.φ args vs) :
    Calls P f ⟨vs⟩ C.w (fun e w => ∃ C' : Ctx, C'.w = w ∧ Ext C C' ∧ Inv P G C' (applyUps g r.ups) dep ∧ (∀ id, C'.φ id = C.φ id ∨ (hd ≤ id ∧ id < hd + r.m)) ∧ OutRd P C' r.out e) := by
  unfold borrowCall at h
  split at h <;> try cases h
  rename_i R hreach
  split at h <;> try cases h
  rename_i args' objs hnd hargs hobjs
  split at h <;> try cases h
  rename_i out σ1 ps hc
  split at h <;> try cases h
  rename_i out' objs' hout hobjs'
  split at h <;> cases h
  rename_i hle
  obtain ⟨hdep, hps⟩ := hps
  rw [Bool.and_eq_true] at hnd
  obtain ⟨hnd, hsome⟩ := hnd
  have hsome : ∀ i ∈ R, (∃ o, g i = some o) ∧ i < hd := fun i hi => by
    have := List.all_eq_true.1 hsome i hi
    simp only [Bool.and_eq_true, decide_eq_true_eq] at this
    exact ⟨Option.isSome_iff_exists.1 this.1, this.2⟩
  obtain ⟨n, hn⟩ : ∃ n, objs'.length = R.length + n := ⟨objs'.length - R.length, by omega⟩
  simp only [hn, Nat.add_sub_cancel_left] at hfr ⊢
  obtain ⟨hl1, hg1⟩ := rnOs_get hobjs
  obtain ⟨hl2, hg2⟩ := rnOs_get hobjs'
  let φ1 : Nat → Option Nat := fun j => (R[j]?).bind C.φ
  have hφ1 : ∀ j b, φ1 j = some b → ∃ id, R[j]? = some id ∧ C.φ id = some b := by
    intro j b hb
    simp only [φ1] at hb
    cases hr : R[j]? with
    | none => simp [hr] at hb
    | some id => rw [hr] at hb; exact ⟨id, rfl, hb⟩
  have hρ : ∀ id j b, idxIn R id 0 = some j → C.φ id = some b → φ1 j = some b := by
    intro id j b hi hb
    obtain ⟨_, h2⟩ := idxIn_get hi
    rw [Nat.sub_zero] at h2
    simp only [φ1, h2, Option.bind_some, hb]
  let C1 : Ctx := ⟨C.w, C.S, φ1⟩
  have hobj1 : ∀ j o, (⟨objs, dep⟩ : St).g j = some o → ∃ id o0, R[j]? = some id ∧ g id = some o0 ∧ rnO (fun i => idxIn R i 0) (some o0) = some (some o) := by
    intro j o hj
    simp only [St.g] at hj
    split at hj
    · rename_i x hx
      subst hj
      obtain ⟨o0, h1, h2⟩ := hg1 j _ hx
      simp only [List.getElem?_map, Option.map_eq_some_iff] at h1
      obtain ⟨id, h3, h4⟩ := h1
      cases o0 with
      | none => simp [rnO] at h2
      | some o0 => exact ⟨id, o0, h3, h4, h2⟩
    · cases hj
  have hI1 : Inv P G C1 (⟨objs, dep⟩ : St).g dep := by
    refine ⟨hI.lt, hI.dep, ?_, ?_, hI.glob⟩
    · intro j o hj
      obtain ⟨id, o0, h1, h2, h3⟩ := hobj1 j o hj
      obtain ⟨b, q1, q2, q3⟩ := hI.obj id o0 h2
      exact ⟨b, by simp only [C1, φ1, h1, Option.bind_some, q1], q2, rnO_rd hρ h3 q3⟩
    · intro i j b oi oj hi hj hbi hbj
      obtain ⟨id, o0, h1, h2, _⟩ := hobj1 i oi hi
      obtain ⟨id', o0', h1', h2', _⟩ := hobj1 j oj hj
      simp only [C1, φ1, h1, Option.bind_some] at hbi
      simp only [C1, φ1, h1', Option.bind_some] at hbj
      have := hI.inj id id' b o0 o0' h2 h2' hbi hbj
      subst this
      exact nodupB_get hnd i j id h1 h1'
  have hF1 : Fresh C1 (⟨objs, dep⟩ : St).objs.length := by
    intro j hj
    simp only [hl1, List.length_map] at hj
    simp only [C1, φ1, List.getElem?_eq_none hj, Option.bind_none]
  have hargs1 : RdL P C1.w C1.S C1.φ args' vs := rnL_rd hρ args args' vs hargs ha
  refine (hcall args' ⟨objs, dep⟩ out σ1 ps hc hps C1 vs hI1 hF1 hargs1).mono fun e w' ⟨C2, hw, hE, hI2, hF2, ho⟩ => ?_
  subst hw
  rw [hdep] at hI2
  let φ' : Nat → Option Nat := fun id => if hd ≤ id ∧ id < hd + n then C2.φ (id - hd + R.length) else C.φ id
  let C' : Ctx := ⟨C2.w, C2.S, φ'⟩
  have hφnew : ∀ id, hd ≤ id → id < hd + n → C.φ id = none := fun id h1 h2 => by
    have := hfr (id - hd) (by omega)
    rwa [Nat.add_sub_cancel' h1] at this
  have hlen : σ1.objs.length = R.length + n := by omega
  have hX : Ext C C' := by
    refine ⟨hE.os, hE.tape, hE.output, hE.size, hE.tag, hE.prot, hE.shp, ?_, ?_, ?_, fun b hb hnb => hE.frm b hb fun j h => ?_⟩
    · intro id b hb
      show φ' id = some b
      simp only [φ']
      split
      · rename_i hh; rw [hφnew id hh.1 hh.2] at hb; cases hb
      · exact hb
    · intro k b h
      rcases hE.snew k b h with h | h | ⟨j, h⟩
      · exact .inl h
      · exact .inr (.inl h)
      · obtain ⟨id, _, h2⟩ := hφ1 j b h
        exact .inr (.inr ⟨id, h2⟩)
    · intro id b hb
      simp only [C', φ'] at hb
      split at hb
      · rcases hE.pnew _ b hb with h | h | ⟨j, h⟩
        · obtain ⟨id', _, h2⟩ := hφ1 _ b h
          exact .inr (.inr ⟨id', h2⟩)
        · exact .inr (.inl h)
        · obtain ⟨id', _, h2⟩ := hφ1 j b h
          exact .inr (.inr ⟨id', h2⟩)
      · exact .inl hb
    · obtain ⟨id, _, h2⟩ := hφ1 j b h
      exact hnb id h2
  have hρ' : ∀ j id b, backN R hd j = some id → C2.φ j = some b → φ' id = some b := by
    intro j id b hj hb
    unfold backN at hj
    split at hj
    · rename_i id0 hr
      cases hj
      have hm := List.mem_of_getElem? hr
      obtain ⟨⟨o, hg⟩, hlt⟩ := hsome id hm
      obtain ⟨b0, h1, _⟩ := hI.obj id o hg
      have h2 : C2.φ j = some b0 := hE.phi j b0 (by show φ1 j = some b0; simp only [φ1, hr, Option.bind_some, h1])
      rw [hb] at h2; cases h2
      simp only [φ']
      rw [if_neg (by omega)]
      exact h1
    · rename_i hr
      cases hj
      have hge : R.length ≤ j := List.getElem?_eq_none_iff.1 hr
      have hlt : j < R.length + n := by
        rcases Nat.lt_or_ge j (R.length + n) with h | h
        · exact h
        · have := hF2 j (by omega); rw [this] at hb; cases hb
      simp only [φ']
      rw [if_pos ⟨by omega, by omega⟩, show hd + (j - R.length) - hd + R.length = j by omega]
      exact hb
  -- what is behind each number
  have hmap : ∀ i o, i ∈ R ++ List.range' hd n → backV R hd objs' i = some o → ∃ j o0, backN R hd j = some i ∧ σ1.g j = some o0 ∧ rnO (backN R hd) (some o0) = some (some o) := by
    intro i o hi hv
    unfold backV at hv
    have fin : ∀ j, backN R hd j = some i → (objs'[j]?).getD none = some o → ∃ j o0, backN R hd j = some i ∧ σ1.g j = some o0 ∧ rnO (backN R hd) (some o0) = some (some o) := by
      intro j hj hio
      cases hx : objs'[j]? with
      | none => simp [hx] at hio
      | some x =>
        rw [hx] at hio
        simp only [Option.getD_some] at hio
        subst hio
        obtain ⟨o0, q1, q2⟩ := hg2 _ _ hx
        cases o0 with
        | none => simp [rnO] at q2
        | some o0 => exact ⟨j, o0, hj, by simp [St.g, q1], q2⟩
    split at hv
    · rename_i k hk
      obtain ⟨_, h2⟩ := idxIn_get hk
      rw [Nat.sub_zero] at h2
      exact fin k (by simp [backN, h2]) hv
    · rename_i hk
      have hnR : i ∉ R := by
        intro hm
        clear fin hv hi
        have : ∀ (L : List Nat) (n : Nat), i ∈ L → idxIn L i n ≠ none := by
          intro L
          induction L with
          | nil => intro n h; simp at h
          | cons a L ih =>
            intro n h
            simp only [idxIn]
            split
            · simp
            · rename_i hb
              rcases List.mem_cons.1 h with h | h
              · subst h; simp at hb
              · exact ih _ h
        exact this R 0 hm hk
      have hi2 : hd ≤ i ∧ i < hd + n := by
        rcases List.mem_append.1 hi with h | h
        · exact absurd h hnR
        · simpa [List.mem_range'_1] using h
      refine fin _ ?_ hv
      unfold backN
      rw [List.getElem?_eq_none (by omega)]
      simp only [Option.some.injEq]
      omega
  have hobj : ∀ id o, applyUps g ((R ++ List.range' hd n).map fun i => (i, backV R hd objs' i)) id = some o →
      ∃ b, φ' id = some b ∧ (∀ k, ¬ C2.S k b) ∧ ObjRd P C2.w C2.S φ' o b ∧ (id ∈ R ++ List.range' hd n → ∃ j o0, backN R hd j = some id ∧ σ1.g j = some o0 ∧ C2.φ j = some b) ∧ (id ∉ R ++ List.range' hd n → id ∉ R ∧ g id = some o ∧ C.φ id = some b) := by
    intro id o hid
    rw [applyUps_map (fun i => backV R hd objs' i)] at hid
    split at hid
    · rename_i hm
      obtain ⟨j, o0, h1, h2, h3⟩ := hmap id o hm hid
      obtain ⟨b, p1, p2, p3⟩ := hI2.obj _ _ h2
      exact ⟨b, hρ' j id b h1 p1, p2, rnO_rd hρ' h3 p3, fun _ => ⟨j, o0, h1, h2, p1⟩, fun h => absurd hm h⟩
    · rename_i hm
      have hnr : id ∉ R := fun h => hm (List.mem_append_left _ h)
      obtain ⟨b, p1, p2, p3⟩ := hI.obj id o hid
      have hnb : ∀ j, C1.φ j ≠ some b := by
        intro j hj
        obtain ⟨id', r1, r2⟩ := hφ1 j b hj
        have hm' := List.mem_of_getElem? r1
        obtain ⟨⟨o', ho'⟩, _⟩ := hsome id' hm'
        have := hI.inj id id' b o o' hid ho' p1 r2
        subst this
        exact hnr hm'
      refine ⟨b, hX.phi id b p1, ?_, p3.ext hX (hE.frm b p3.lt hnb), fun h => absurd h hm, fun _ => ⟨hnr, hid, p1⟩⟩
      intro k hk
      rcases hE.snew k b hk with h | h | ⟨j, h⟩
      · exact p2 k h
      · have := p3.lt; simp only [C1] at h; omega
      · exact hnb j h
  refine ⟨C', rfl, hX, ⟨hI2.lt, hI2.dep, ?_, ?_, hI2.glob⟩, ?_, ?_⟩
  · intro id o hid
    obtain ⟨b, q1, q2, q3, _⟩ := hobj id o hid
    exact ⟨b, q1, q2, q3⟩
  · intro i j b oi oj hi hj hbi hbj
    obtain ⟨b1, p1, p2, p3, p4, p5⟩ := hobj i oi hi
    obtain ⟨b2, r1, r2, r3, r4, r5⟩ := hobj j oj hj
    have e1 : b1 = b := Option.some.inj (p1.symm.trans hbi)
    have e2 : b2 = b := Option.some.inj (r1.symm.trans hbj)
    subst e1; subst e2
    have mixed : ∀ k y, C2.φ k = some b2 → y ∉ R → (∃ o, g y = some o) → C.φ y = some b2 → False := by
      rintro k y hφx hyR ⟨oy, hgy⟩ hφy
      have fromφ : ∀ j, C1.φ j = some b2 → False := by
        intro j h
        obtain ⟨id', u1, u2⟩ := hφ1 j b2 h
        have hm := List.mem_of_getElem? u1
        obtain ⟨⟨o', ho'⟩, _⟩ := hsome id' hm
        have := hI.inj y id' b2 oy o' hgy ho' hφy u2
        subst this
        exact hyR hm
      rcases hE.pnew _ _ hφx with h | h | ⟨k, h⟩
      · exact fromφ _ h
      · obtain ⟨bb, t1, _, t3⟩ := hI.obj y oy hgy
        rw [hφy] at t1; cases t1
        have := t3.lt
        simp only [C1] at h
        omega
      · exact fromφ _ h
    by_cases hi' : i ∈ R ++ List.range' hd n <;> by_cases hj' : j ∈ R ++ List.range' hd n
    · obtain ⟨ji, o1, a1, a2, a3⟩ := p4 hi'
      obtain ⟨jj, o2, c1, c2, c3⟩ := r4 hj'
      have := hI2.inj _ _ _ o1 o2 a2 c2 a3 c3
      subst this
      exact Option.some.inj (a1.symm.trans c1)
    · obtain ⟨ji, o1, a1, a2, a3⟩ := p4 hi'
      obtain ⟨h1, h2, h3⟩ := r5 hj'
      exact (mixed ji j a3 h1 ⟨_, h2⟩ h3).elim
    · obtain ⟨jj, o2, c1, c2, c3⟩ := r4 hj'
      obtain ⟨h1, h2, h3⟩ := p5 hi'
      exact (mixed jj i c3 h1 ⟨_, h2⟩ h3).elim
    · obtain ⟨_, a2, a3⟩ := p5 hi'
      obtain ⟨_, c2, c3⟩ := r5 hj'
      exact hI.inj i j _ oi oj a2 c2 a3 c3
  · intro id
    by_cases hh : hd ≤ id ∧ id < hd + n
    · exact .inr hh
    · left; show φ' id = C.φ id; simp only [φ', if_neg hh]
  · cases out with
    | ret v =>
      obtain ⟨u, rfl, hu⟩ := ho
      simp only [AOut.map] at hout
      split at hout <;> cases hout
      rename_i v' hv
      exact ⟨u, rfl, rnA_rd hρ' v v' u hv hu⟩
    | panic v =>
      obtain ⟨u, rfl, hu⟩ := ho
      simp only [AOut.map] at hout
      split at hout <;> cases hout
      rename_i v' hv
      exact ⟨u, rfl, rnA_rd hρ' v v' u hv hu⟩

end Go.Vid

/-
A call that takes over what it is handed: the caller's own objects that the arguments reach turn into data for good.
-/
namespace Go.Vid

variable {P : Program} {G : Nat → Option (List AV)} {T : Tab}

mutual
theorem rsA_local {look look' : Nat → Option (List AV × List Nat)} {K : Nat} : ∀ (a a' : AV) (rd : List Nat), rsA look K a = some (a', rd) →
    (∀ id cs r, look id = some (cs, r) → (∀ i ∈ id :: r, i ∈ rd) → look' id = some (cs, r)) → rsA look' K a = some (a', rd)
  | .ref id off, a', rd, h, hl => by
    simp only [rsA] at h ⊢
    split at h <;> cases h
    rename_i cs r hk
    rw [hl id cs r hk (fun i hi => hi)]
  | .rsl id off len cap, a', rd, h, hl => by
    simp only [rsA] at h ⊢
    split at h <;> cases h
    rename_i cs r hk
    rw [hl id cs r hk (fun i hi => hi)]
  | .func fn fs cs, a', rd, h, hl => by
    simp only [rsA] at h ⊢
    split at h <;> cases h
    rename_i fs' r1 cs' r2 h1 h2
    rw [rsL_local fs fs' r1 h1 fun id c r hk hm => hl id c r hk fun i hi => List.mem_append_left _ (hm i hi), rsL_local cs cs' r2 h2 fun id c r hk hm => hl id c r hk fun i hi => List.mem_append_right _ (hm i hi)]
  | .iface t x, a', rd, h, hl => by
    simp only [rsA] at h ⊢
    split at h <;> cases h
    rename_i x' h1
    rw [rsA_local x x' _ h1 hl]
  | .agg cs, a', rd, h, hl => by
    simp only [rsA] at h ⊢
    split at h <;> cases h
    rename_i cs' h1
    rw [rsL_local cs cs' _ h1 hl]
  | .tup cs, a', rd, h, hl => by
    simp only [rsA] at h ⊢
    split at h <;> cases h
    rename_i cs' h1
    rw [rsL_local cs cs' _ h1 hl]
  | .any, _, _, h, _ | .bool _, _, _, h, _ | .int _ _, _, _, h, _ | .str _, _, _, h, _ | .nilp, _, _, h, _ | .nilf, _, _, h, _ | .nili, _, _, h, _ | .lit _ _, _, _, h, _ | .lsl _ _ _ _ _, _, _, h, _ => by
    simp only [rsA] at h ⊢; exact h
theorem rsL_local {look look' : Nat → Option (List AV × List Nat)} {K : Nat} : ∀ (as as' : List AV) (rd : List Nat), rsL look K as = some (as', rd) →
    (∀ id cs r, look id = some (cs, r) → (∀ i ∈ id :: r, i ∈ rd) → look' id = some (cs, r)) → rsL look' K as = some (as', rd)
  | [], as', rd, h, _ => by simp only [rsL] at h ⊢; exact h
  | a :: as, as', rd, h, hl => by
    simp only [rsL] at h ⊢
    split at h <;> cases h
    rename_i a' r1 as'' r2 h1 h2
    rw [rsA_local a a' r1 h1 fun id c r hk hm => hl id c r hk fun i hi => List.mem_append_left _ (hm i hi), rsL_local as as'' r2 h2 fun id c r hk hm => hl id c r hk fun i hi => List.mem_append_right _ (hm i hi)]
end

theorem rsLook_local {g g' : Nat → Option AObj} {K : Nat} : ∀ (n : Nat) (id : Nat) (cs : List AV) (rd : List Nat), rsLook g K n id = some (cs, rd) → (∀ i ∈ id :: rd, g' i = g i) → rsLook g' K n id = some (cs, rd)
  | 0, _, _, _, h, _ => by simp [rsLook] at h
  | n + 1, id, cs, rd, h, hg => by
    simp only [rsLook] at h ⊢
    rw [hg id (by simp)]
    split at h <;> try cases h
    rename_i cs0 e gr h0
    split at h <;> try cases h
    rename_i cs' rd' hr
    split at h <;> cases h
    rename_i ht
    try simp only [h0]
    rw [rsL_local cs0 cs rd hr fun i c r hk hm => rsLook_local n i c r hk fun j hj => hg j (List.mem_cons_of_mem _ (hm j hj))]
    simp [ht]


structure GiveOut where
  out : AOut
  rds : List Nat
  ps : List Prop

def giveCall (call : Ask) (f : FuncId) (args : List AV) (g : Nat → Option AObj) (dep : Nat) : Option GiveOut :=
  match rsL (rsLook g 0 rsDepth) 0 args with
  | none => none
  | some (args', rd) => match call f args' ⟨[], dep⟩ with
    | none => none
    | some (out, σ1, ps) => match rsA (rsLook σ1.g 0 rsDepth) 0 out.val with
      | none => none
      | some (v, _) => if tagLe 0 v = true then some ⟨match out with
          | .ret _ => .ret v
          | .panic _ => .panic v, rd, (σ1.dep = dep) :: ps⟩
        else none

theorem reach_acc {g : Nat → Option AObj} : ∀ (n : Nat) (todo acc R : List Nat), reach g n todo acc = some R → ∀ i ∈ acc, i ∈ R
  | n, [], acc, R, h, i, hi => by
    cases n <;> (simp only [reach, Option.some.injEq] at h; subst h; exact hi)
  | 0, _ :: _, acc, R, h, i, hi => by simp [reach] at h
  | n + 1, k :: todo, acc, R, h, i, hi => by
    simp only [reach] at h
    split at h
    · exact reach_acc n _ _ _ h i hi
    · split at h
      · exact reach_acc n _ _ _ h i (List.mem_append_left _ hi)
      · exact reach_acc n _ _ _ h i (List.mem_append_left _ hi)

theorem reach_local {g g' : Nat → Option AObj} : ∀ (n : Nat) (todo acc R : List Nat), reach g n todo acc = some R → (∀ i ∈ R, g' i = g i) → reach g' n todo acc = some R
  | n, [], acc, R, h, _ => by cases n <;> simpa [reach] using h
  | 0, _ :: _, acc, R, h, _ => by simp [reach] at h
  | n + 1, i :: todo, acc, R, h, hg => by
    simp only [reach] at h ⊢
    split at h
    · exact reach_local n _ _ _ h hg
    · have hi : i ∈ R := by
        split at h
        · exact reach_acc n _ _ _ h i (by simp)
        · exact reach_acc n _ _ _ h i (by simp)
      rw [hg i hi]
      split at h
      · exact reach_local n _ _ _ h hg
      · exact reach_local n _ _ _ h hg

theorem ownCall_local {call : Ask} {f : FuncId} {args : List AV} {g g' : Nat → Option AObj} {hd dep : Nat} {r : OwnOut}
    (h : ownCall call f args g hd dep = some r) (hg : ∀ i ∈ r.rds, g' i = g i) : ownCall call f args g' hd dep = some r := by
  unfold ownCall at h ⊢
  split at h <;> try cases h
  rename_i R hreach
  split at h <;> try cases h
  rename_i args' objs hnd hargs hobjs
  split at h <;> try cases h
  rename_i out σ1 ps hc
  split at h <;> cases h
  rename_i out' objs' hout hobjs'
  simp only at hg
  have e1 : R.all (fun i => (g' i).isSome) = R.all (fun i => (g i).isSome) := by
    rw [Bool.eq_iff_iff, List.all_eq_true, List.all_eq_true]
    exact forall_congr' fun i => forall_congr' fun hi => by rw [hg i hi]
  have e2 : R.map g' = R.map g := List.map_congr_left hg
  rw [reach_local _ _ _ _ hreach hg]
  simp only [e1, e2, hnd, hargs, hobjs, hc, hout, hobjs']

theorem borrowCall_local {call : Ask} {f : FuncId} {args : List AV} {g g' : Nat → Option AObj} {hd dep : Nat} {r : OwnOut}
    (h : borrowCall call f args g hd dep = some r) (hg : ∀ i ∈ r.rds, g' i = g i) : borrowCall call f args g' hd dep = some r := by
  unfold borrowCall at h ⊢
  split at h <;> try cases h
  rename_i R hreach
  split at h <;> try cases h
  rename_i args' objs hnd hargs hobjs
  split at h <;> try cases h
  rename_i out σ1 ps hc
  split at h <;> try cases h
  rename_i out' objs' hout hobjs'
  split at h <;> cases h
  rename_i hle
  simp only at hg
  have e1 : R.all (fun i => (g' i).isSome && decide (i < hd)) = R.all (fun i => (g i).isSome && decide (i < hd)) := by
    rw [Bool.eq_iff_iff, List.all_eq_true, List.all_eq_true]
    exact forall_congr' fun i => forall_congr' fun hi => by rw [hg i hi]
  have e2 : R.map g' = R.map g := List.map_congr_left hg
  rw [reach_local _ _ _ _ hreach hg]
  simp only [e1, e2, hnd, hargs, hobjs, hc, hout, hobjs', if_pos hle]

/-- Who answers, and what his answers are good for. -/
structure AskOk2 (P : Program) (G : Nat → Option (List AV)) (pol : FuncId → Nat) (call : Ask) : Prop where
  x : AskOk P G call
  b : ∀ f, pol f = 2 → ∀ args σ out σ' ps, call f args σ = some (out, σ', ps) → AllP ps → CallOk P G f args σ out σ'

theorem giveCall_local {call : Ask} {f : FuncId} {args : List AV} {g g' : Nat → Option AObj} {dep : Nat} {r : GiveOut}
    (h : giveCall call f args g dep = some r) (hg : ∀ i ∈ r.rds, g' i = g i) : giveCall call f args g' dep = some r := by
  unfold giveCall at h ⊢
  split at h <;> try cases h
  rename_i args' rd' hrs
  split at h <;> try cases h
  rename_i out σ1 ps hc
  split at h <;> try cases h
  rename_i v rd2 hv
  split at h <;> cases h
  rename_i ht
  simp only at hg
  rw [rsL_local args args' rd' hrs fun i c r hk hm => rsLook_local _ i c r hk fun j hj => hg j (hm j hj)]
  simp only [hc, hv, ht, if_true]

theorem applyUps_none : ∀ (L : List Nat) (g : Nat → Option AObj) (i : Nat), applyUps g (L.map fun i => (i, (none : Option AObj))) i = if i ∈ L then none else g i
  | [], g, i => by simp [applyUps]
  | k :: L, g, i => by
    simp only [List.map_cons, applyUps]
    rw [applyUps_none L]
    by_cases h : i ∈ L
    · simp [h]
    · by_cases e : i = k
      · subst e; simp
      · simp [h, e, upd]

theorem giveCall_core {call : Ask} (hcall : AskOk P G call) {f : FuncId} {args : List AV} {g : Nat → Option AObj} {dep : Nat} {r : GiveOut} (h : giveCall call f args g dep = some r) (hps : AllP r.ps) {C : Ctx} {vs : List Value}
    (hI : Inv P G C g dep) (ha : RdL P C.w C.S C.φ args vs) :
    Calls P f ⟨vs⟩ C.w (fun e w => ∃ C' : Ctx, C'.w = w ∧ Ext C C' ∧ Inv P G C' (applyUps g (r.rds.map fun i => (i, none))) dep ∧ C'.φ = C.φ ∧ OutRd P C' r.out e) := by
  unfold giveCall at h
  split at h <;> try cases h
  rename_i args' rd' hrs
  split at h <;> try cases h
  rename_i out σ1 ps hc
  split at h <;> try cases h
  rename_i v' rd2 hv
  split at h <;> cases h
  rename_i ht
  obtain ⟨hdep, hps⟩ := hps
  simp only
  -- only what the arguments reach is given
  let gR : Nat → Option AObj := fun i => if i ∈ rd' then g i else none
  have hgR : ∀ i o, gR i = some o → i ∈ rd' ∧ g i = some o := by
    intro i o hi
    simp only [gR] at hi
    split at hi
    · exact ⟨‹_›, hi⟩
    · cases hi
  have hrs' : rsL (rsLook gR 0 rsDepth) 0 args = some (args', rd') :=
    rsL_local args args' rd' hrs fun i c r hk hm => rsLook_local _ i c r hk fun j hj => by simp [gR, hm j hj]
  have hIR : Inv P G C gR dep := hI.sub fun i o hi => (hgR i o hi).2
  let S1 : Nat → Nat → Prop := fun j b => C.S j b ∨ (j = 0 ∧ ∃ id o, gR id = some o ∧ C.φ id = some b)
  have hS1 : ∀ k b, C.S k b → S1 k b := fun k b h => .inl h
  have hargs : RdL P C.w S1 noId args' vs := rsL_rd hS1 (rsLook_ok hIR hS1 (fun id o b hg hb => .inr ⟨rfl, id, o, hg, hb⟩) rsDepth) _ _ _ _ hrs' ha
  let C1 : Ctx := ⟨C.w, S1, noId⟩
  have hk1 : Keeps C.w C.w C.S S1 noId noId := ⟨hS1, fun _ _ _ _ _ h => h, (fun _ _ _ hn _ => by cases hn), (fun _ _ hn => by cases hn)⟩
  have hI1 : Inv P G C1 (emptySt dep).g dep := by
    refine ⟨fun k b hk => ?_, fun k b hk => ?_, fun id o ho => ?_, fun i j b oi oj hi => ?_, fun n cs hn => ?_⟩
    · rcases hk with hk | ⟨_, id, o, hg, hb⟩
      · exact hI.lt k b hk
      · obtain ⟨b', h1, _, h3⟩ := hIR.obj id o hg
        rw [hb] at h1; cases h1; exact h3.lt
    · rcases hk with hk | ⟨rfl, _⟩
      · exact hI.dep k b hk
      · exact Nat.zero_le _
    · simp [St.g, emptySt] at ho
    · simp [St.g, emptySt] at hi
    · obtain ⟨h1, h2⟩ := hI.glob n cs hn
      exact ⟨hS1 _ _ h1, h2.keep (hk1.inner 0) ⟨0, Nat.le_refl _, h1⟩⟩
  have hrun := hcall f args' (emptySt dep) out σ1 ps hc hps C1 vs hI1 (fun _ _ => rfl) hargs
  refine hrun.mono fun e w' ⟨C2, hw, hE, hI2, _, ho⟩ => ?_
  subst hw
  rw [hdep] at hI2
  let S3 : Nat → Nat → Prop := fun j b => C2.S j b ∨ (j = 0 ∧ ∃ id o, σ1.g id = some o ∧ C2.φ id = some b)
  have hS3 : ∀ k b, C2.S k b → S3 k b := fun k b h => .inl h
  have hS4 : ∀ j b, S3 j b → C.S j b ∨ C.w.heap.size ≤ b ∨ ∃ id o, gR id = some o ∧ C.φ id = some b := by
    rintro j b (h2 | ⟨rfl, id, o, hg, hb⟩)
    · rcases hE.snew j b h2 with h3 | h3 | ⟨id, h3⟩
      · rcases h3 with h3 | ⟨_, h3⟩
        · exact .inl h3
        · exact .inr (.inr h3)
      · exact .inr (.inl h3)
      · cases h3
    · rcases hE.pnew id b hb with h3 | ⟨i, h3⟩
      · exact .inr (.inl h3)
      · cases h3
  let C' : Ctx := ⟨C2.w, S3, C.φ⟩
  have hX : Ext C C' := by
    refine ⟨hE.os, hE.tape, hE.output, hE.size, fun k b hk => hS3 _ _ (hE.tag _ _ (hS1 _ _ hk)), fun k b hk => hE.prot k b (hS1 _ _ hk), hE.shp, fun _ _ h => h, ?_, fun _ _ h => .inl h, fun b hb _ => hE.frm b hb (fun _ h => by cases h)⟩
    intro k b h3
    rcases hS4 k b h3 with h | h | ⟨id, _, _, h⟩
    · exact .inl h
    · exact .inr (.inl h)
    · exact .inr (.inr ⟨id, h⟩)
  have hg2 : ∀ i o, applyUps g (rd'.map fun i => (i, none)) i = some o → i ∉ rd' ∧ g i = some o := by
    intro i o hi
    rw [applyUps_none] at hi
    split at hi
    · cases hi
    · exact ⟨‹_›, hi⟩
  have hI' : Inv P G C' (applyUps g (rd'.map fun i => (i, none))) dep := by
    refine ⟨?_, ?_, ?_, ?_, glob_ext hI hX⟩
    · rintro k b (h3 | ⟨_, id, o, hg, hb⟩)
      · exact hI2.lt k b h3
      · obtain ⟨b', h1, _, h3⟩ := hI2.obj id o hg
        rw [hb] at h1; cases h1; exact h3.lt
    · rintro k b (h3 | ⟨rfl, _⟩)
      · exact hI2.dep k b h3
      · exact Nat.zero_le _
    · intro id o hid
      obtain ⟨hnr, hg⟩ := hg2 id o hid
      obtain ⟨b, h1, h2, h3⟩ := hI.obj id o hg
      refine ⟨b, h1, ?_, h3.ext hX (hE.frm b h3.lt (fun _ h => by cases h))⟩
      intro k h4
      rcases hS4 k b h4 with h | h | ⟨id', o', hg', h⟩
      · exact h2 k h
      · have := h3.lt; omega
      · have := hI.inj id id' b o o' hg (hgR id' o' hg').2 h1 h
        subst this
        exact hnr (hgR id o' hg').1
    · intro i j b oi oj hi hj hbi hbj
      exact hI.inj i j b oi oj (hg2 i oi hi).2 (hg2 j oj hj).2 hbi hbj
  have hout : ∀ u, Rd P C2.w C2.S C2.φ out.val u → Rd P C'.w C'.S C'.φ v' u := by
    intro u hu
    have hv' : Rd P C2.w S3 noId v' u := rsA_rd hS3 (rsLook_ok hI2 hS3 (fun id o b hg hb => .inr ⟨rfl, id, o, hg, hb⟩) rsDepth) _ _ _ _ hv hu
    exact (Rd.tagged (φ' := C'.φ) v' u hv' ht).keep ⟨fun k b hk => hk.2, fun _ _ _ _ _ h => h, fun _ _ _ _ h => h, fun _ _ h => h⟩
  refine ⟨C', rfl, hX, hI', rfl, ?_⟩
  cases out with
  | ret v => obtain ⟨u, rfl, hu⟩ := ho; exact ⟨u, rfl, hout u hu⟩
  | panic v => obtain ⟨u, rfl, hu⟩ := ho; exact ⟨u, rfl, hout u hu⟩

end Go.Vid

/-
The abstract machine's frames, and its operations in the order of the text.
-/
namespace Go.Vid

structure ADef where
  fn : Fn
  args : List AV
  cap : List AV
  deriving Inhabited

structure Fr where
  tmps : List AV
  defs : List ADef
  deriving Inhabited

inductive AExit where
  | normal
  | exit (id : Nat)
  | goto (l : Nat)
  | ret
  | panic (v : AV)
  deriving Inhabited

variable {P : Program} {G : Nat → Option (List AV)} {T : Tab}

def RdD (P : Program) (C : Ctx) : List ADef → List Deferred → Prop
  | [], l => l = []
  | d :: ds, l => ∃ vs ws r, l = { target := .fn d.fn ⟨ws⟩, args := ⟨vs⟩ } :: r ∧ RdL P C.w C.S C.φ d.args vs ∧ RdL P C.w C.S C.φ d.cap ws ∧ RdD P C ds r

theorem RdD.ext {C C' : Ctx} (e : Ext C C') : ∀ {ds : List ADef} {l : List Deferred}, RdD P C ds l → RdD P C' ds l
  | [], _, h => by simp only [RdD] at h ⊢; exact h
  | d :: ds, _, h => by
    simp only [RdD] at h ⊢
    obtain ⟨vs, ws, r, rfl, h1, h2, h3⟩ := h
    exact ⟨vs, ws, r, rfl, h1.ext e, h2.ext e, RdD.ext e h3⟩

/-- How a frame and the own memory lie in the model's. -/
structure Rel (P : Program) (G : Nat → Option (List AV)) (C : Ctx) (fr : Fr) (σ : St) (a : Act) : Prop where
  inv : Inv P G C σ.g σ.dep
  fresh : Fresh C σ.objs.length
  tmps : RdL P C.w C.S C.φ fr.tmps a.tmps.toList
  defs : RdD P C fr.defs a.defers

def ERd (P : Program) (C : Ctx) : AExit → Exit → Prop
  | .normal, e => e = .normal
  | .exit id, e => e = .exit id
  | .goto l, e => e = .goto l
  | .ret, e => e = .ret
  | .panic v, e => ∃ u, e = .panic [{ v := u, recovered := false }] ∧ Rd P C.w C.S C.φ v u

def Post (P : Program) (G : Nat → Option (List AV)) (C : Ctx) (ae : AExit) (fr : Fr) (σ : St) (e : Exit) (a : Act) (w : World) : Prop :=
  ∃ C' : Ctx, C'.w = w ∧ Ext C C' ∧ Rel P G C' fr σ a ∧ ERd P C' ae e

theorem Post.from {C0 C : Ctx} {ae : AExit} {fr : Fr} {σ : St} {e : Exit} {a : Act} {w : World} (hE : Ext C0 C) (h : Post P G C ae fr σ e a w) : Post P G C0 ae fr σ e a w :=
  let ⟨C', h1, h2, h3⟩ := h; ⟨C', h1, hE.trans h2, h3⟩

def aeval (G : Nat → Option (List AV)) (fr : Fr) : Operand → Option AV
  | .tmp t => some (fr.tmps.getD t .undef)
  | .const v => toAV v
  | .global n => match G n with
    | some cs => some (.lit 0 cs)
    | none => none
  | .func f => some (.func (.func f) [] [])

theorem rd_undef {w : World} {S : Nat → Nat → Prop} {φ : Nat → Option Nat} : Rd P w S φ .undef undef := by
  simp only [AV.undef, Rd, undef]; exact ⟨[], rfl, .nil⟩

theorem aeval_rd' {C : Ctx} {fr : Fr} {g : Nat → Option AObj} {dep : Nat} {a : Act} (hI : Inv P G C g dep) (ht0 : RdL P C.w C.S C.φ fr.tmps a.tmps.toList) : RdE P C (aeval G fr) a.eval := by
  intro x v hv
  cases x with
  | tmp t =>
    simp only [aeval, Option.some.injEq] at hv
    subst hv
    simp only [Act.eval]
    cases ht : fr.tmps[t]? with
    | none =>
      have hl := ht0.length
      have h1 : fr.tmps.length ≤ t := List.getElem?_eq_none_iff.1 ht
      have h2 : a.tmps[t]? = none := by apply Array.getElem?_eq_none; simp at hl; omega
      simp only [List.getD_eq_getElem?_getD, ht, Option.getD_none, Array.getD_eq_getD_getElem?, h2]
      exact rd_undef
    | some y =>
      obtain ⟨u, hu, hr⟩ := ht0.get ht
      simp only [Array.getElem?_toList] at hu
      simp only [List.getD_eq_getElem?_getD, ht, Option.getD_some, Array.getD_eq_getD_getElem?, hu]
      exact hr
  | const c => exact toAV_rd c v hv
  | global n =>
    simp only [aeval] at hv
    split at hv <;> cases hv
    rename_i cs hcs
    obtain ⟨h1, h2⟩ := hI.glob n cs hcs
    simp only [Rd, Act.eval]
    exact ⟨n, 0, rfl, h1, h2⟩
  | func f =>
    simp only [aeval, Option.some.injEq] at hv
    subst hv
    simp only [Rd, Act.eval]
    exact ⟨[], [], rfl, .nil, .nil⟩

theorem aeval_rd {C : Ctx} {fr : Fr} {σ : St} {a : Act} (h : Rel P G C fr σ a) : RdE P C (aeval G fr) a.eval := aeval_rd' h.inv h.tmps

def Fr.put (fr : Fr) (dst : Option Tmp) (v : AV) : Fr :=
  match dst with
  | some d => { fr with tmps := fr.tmps.set d v }
  | none => fr

theorem RdL.put {C : Ctx} {fr : Fr} {a : Act} {dst : Option Tmp} {v : AV} {u : Value} (h : RdL P C.w C.S C.φ fr.tmps a.tmps.toList) (hr : Rd P C.w C.S C.φ v u) : RdL P C.w C.S C.φ (fr.put dst v).tmps (a.put dst u).tmps.toList := by
  cases dst with
  | none => exact h
  | some d => simpa [Fr.put, Act.put] using h.set hr d

/-- The frame's next state. -/
theorem Rel.next {C C' : Ctx} {fr : Fr} {σ σ' : St} {a : Act} (h : Rel P G C fr σ a) (hE : Ext C C') (hI : Inv P G C' σ'.g σ'.dep) (hF : Fresh C' σ'.objs.length) {dst : Option Tmp} {v : AV} {u : Value} (hr : Rd P C'.w C'.S C'.φ v u) :
    Rel P G C' (fr.put dst v) σ' (a.put dst u) where
  inv := hI
  fresh := hF
  tmps := RdL.put (h.tmps.ext hE) hr
  defs := by
    have : (a.put dst u).defers = a.defers := by cases dst <;> rfl
    have h2 : (fr.put dst v).defs = fr.defs := by cases dst <;> rfl
    rw [this, h2]; exact h.defs.ext hE

/-- Does the operation run? 'none': not known. -/
def wantedA (ops : Array Oper) (fr : Fr) (o : Oper) : Option Bool :=
  match o.guard with
  | none => some true
  | some (j, want) => match (ops[j]?).bind (·.dst) with
    | none => some false
    | some t => match fr.tmps[t]? with
      | some (.bool b) => some (b == want)
      | some .any => none
      | _ => some false

theorem bool_rd {w : World} {S : Nat → Nat → Prop} {φ : Nat → Option Nat} {a : AV} {v : Value} (h : Rd P w S φ a v) (hy : a ≠ .any) : (match v with | .bool b => some b | _ => none) = (match a with | .bool b => some b | _ => (none : Option Bool)) := by
  cases a <;> simp only [Rd] at h
  case any => exact absurd rfl hy
  case lsl nl _ _ _ _ =>
    cases nl
    · simp only [Bool.false_eq_true, if_false] at h; rcases h with ⟨_, _, _, rfl, _⟩ | ⟨_, rfl, _⟩ <;> rfl
    · simp only [if_true] at h; obtain ⟨rfl, _⟩ := h; rfl
  case bool | int | str | nilp | nilf | nili => subst h; rfl
  case lit => obtain ⟨_, _, rfl, _⟩ := h; rfl
  case ref => obtain ⟨_, _, rfl⟩ := h; rfl
  case rsl => obtain ⟨_, _, _, rfl, _⟩ := h; rfl
  case func => obtain ⟨_, _, rfl, _⟩ := h; rfl
  case iface => obtain ⟨_, rfl, _⟩ := h; rfl
  case agg => obtain ⟨_, rfl, _⟩ := h; rfl
  case tup => obtain ⟨_, rfl, _⟩ := h; rfl

theorem nb_rd {w : World} {S : Nat → Nat → Prop} {φ : Nat → Option Nat} {a : AV} {v : Value} (h : Rd P w S φ a v) (hy : a ≠ .any) (hb : ∀ c, a ≠ .bool c) : ∀ c, v ≠ .bool c := by
  rintro c rfl
  have := bool_rd h hy
  cases a <;> simp at this hb

theorem wanted_rd {C : Ctx} {fr : Fr} {a : Act} (h : RdL P C.w C.S C.φ fr.tmps a.tmps.toList) {ops : Array Oper} {o : Oper} {b : Bool} (hw : wantedA ops fr o = some b) : Region.wanted o (yielded ops a.tmps) = b := by
  unfold wantedA at hw
  unfold Region.wanted
  cases hg : o.guard with
  | none => rw [hg] at hw; simpa using hw
  | some jw =>
    obtain ⟨j, want⟩ := jw
    rw [hg] at hw
    simp only at hw ⊢
    unfold yielded
    cases hd : (ops[j]?).bind (·.dst) with
    | none => rw [hd] at hw; simpa using hw
    | some t =>
      rw [hd] at hw
      simp only [Option.bind_some] at hw ⊢
      cases ht : fr.tmps[t]? with
      | none =>
        have hl := h.length
        have h1 : fr.tmps.length ≤ t := List.getElem?_eq_none_iff.1 ht
        have h2 : a.tmps[t]? = none := by apply Array.getElem?_eq_none; simp at hl; omega
        rw [ht] at hw
        simp only [Option.some.injEq] at hw
        simp [h2, ← hw]
      | some y =>
        obtain ⟨u, hu, hr⟩ := h.get ht
        simp only [Array.getElem?_toList] at hu
        rw [ht] at hw
        simp only [hu]
        by_cases hy : y = .any
        · subst hy; simp at hw
        · cases y with
          | bool c => simp only [Rd] at hr; subst hr; simp only [Option.some.injEq] at hw; simp [← hw]
          | any => exact absurd rfl hy
          | _ =>
            simp only [Option.some.injEq] at hw
            subst hw
            cases u with
            | bool c => exact absurd rfl (nb_rd hr hy (by simp) c)
            | _ => simp

def setAll (objs : List (Option AObj)) : List (Nat × Option AObj) → List (Option AObj)
  | [] => objs
  | (i, o) :: r => setAll (objs.set i o) r

def gOf (objs : List (Option AObj)) (i : Nat) : Option AObj := match objs[i]? with
  | some o => o
  | none => none

theorem St.g_eq (σ : St) : σ.g = gOf σ.objs := rfl

theorem gOf_set {objs : List (Option AObj)} {i : Nat} (h : i < objs.length) (o : Option AObj) : gOf (objs.set i o) = upd (gOf objs) i o := by
  funext j
  by_cases e : j = i
  · subst e; simp [gOf, upd, h]
  · simp only [gOf, upd, if_neg e, List.getElem?_set_ne (Ne.symm e)]

theorem gOf_append (objs : List (Option AObj)) (m : Nat) : gOf (objs ++ List.replicate m none) = gOf objs := by
  funext j
  by_cases hj : j < objs.length
  · simp only [gOf, List.getElem?_append_left hj]
  · have h1 : objs[j]? = none := List.getElem?_eq_none (by omega)
    simp only [gOf, h1, List.getElem?_append_right (Nat.le_of_not_lt hj), List.getElem?_replicate]
    split <;> (rename_i h; split at h <;> first | cases h; rfl | cases h | rfl)

theorem length_setAll : ∀ (ups : List (Nat × Option AObj)) (objs : List (Option AObj)), (setAll objs ups).length = objs.length
  | [], _ => rfl
  | (i, o) :: r, objs => by simp [setAll, length_setAll r]

theorem gOf_setAll : ∀ (ups : List (Nat × Option AObj)) (objs : List (Option AObj)), ups.all (fun u => u.1 < objs.length) = true → gOf (setAll objs ups) = applyUps (gOf objs) ups
  | [], _, _ => rfl
  | (i, o) :: r, objs, h => by
    simp only [List.all_cons, Bool.and_eq_true, decide_eq_true_eq] at h
    simp only [setAll, applyUps]
    rw [gOf_setAll r _ (by simpa using h.2), gOf_set h.1]

def St.app (σ : St) (m : Nat) (ups : List (Nat × Option AObj)) : Option St :=
  let objs := σ.objs ++ List.replicate m none
  if ups.all (fun u => u.1 < objs.length) = true then some ⟨setAll objs ups, σ.dep⟩ else none

theorem St.app_spec {σ σ' : St} {m : Nat} {ups : List (Nat × Option AObj)} (h : σ.app m ups = some σ') : σ'.g = applyUps σ.g ups ∧ σ'.dep = σ.dep ∧ σ'.objs.length = σ.objs.length + m := by
  unfold St.app at h
  simp only at h
  split at h <;> cases h
  rename_i hall
  refine ⟨?_, rfl, ?_⟩
  · rw [St.g_eq, gOf_setAll _ _ hall, gOf_append]; rfl
  · rw [length_setAll]; simp

section
variable (T : Tab) (G : Nat → Option (List AV)) (pol : FuncId → Nat) (call : Ask)

def evCall (f : FuncId) (args : List AV) (σ : St) : Option (AOut × St × List Prop) :=
  match pol f with
  | 0 => match giveCall call f args σ.g σ.dep with
    | some r => match σ.app 0 (r.rds.map fun i => (i, none)) with
      | some σ' => some (r.out, σ', r.ps)
      | none => none
    | none => none
  | 2 => match borrowCall call f args σ.g σ.objs.length σ.dep with
    | some r => match σ.app r.m r.ups with
      | some σ' => some (r.out, σ', r.ps)
      | none => none
    | none => none
  | _ => match ownCall call f args σ.g σ.objs.length σ.dep with
    | some r => match σ.app r.m r.ups with
      | some σ' => some (r.out, σ', r.ps)
      | none => none
    | none => none

def runOp (o : Oper) (fr : Fr) (σ : St) : Option (AExit × Fr × St × List Prop) :=
  match o.op with
  | .call { callee := .value f, args, .. } => match aeval G fr f, argsM (aeval G fr) args.toList with
    | some (.func (.func k) fs cs), some as =>
      if T.fnk k = true then
        match evCall pol call k (fs ++ as ++ cs) σ with
        | some (.ret v, σ', ps) => some (.normal, fr.put o.dst v, σ', ps)
        | some (.panic v, σ', ps) => some (.panic v, fr, σ', ps)
        | none => none
      else none
    | _, _ => none
  | .panic x => match aeval G fr x with
    | some (.iface t v) => some (.panic (.iface t v), fr, σ, [])
    | _ => none
  | .defer { callee := .value f, args, .. } => match aeval G fr f, argsM (aeval G fr) args.toList with
    | some (.func fn fs cs), some as => some (.normal, ({ fr with defs := ⟨fn, fs ++ as, cs⟩ :: fr.defs } : Fr).put o.dst .undef, σ, [])
    | _, _ => none
  | op => match astep T (aeval G fr) σ.g σ.objs.length op with
    | some e => match σ.app e.m e.ups with
      | some σ' => some (.normal, fr.put o.dst e.v, σ', [])
      | none => none
    | none => none
end

def runIdx (T : Tab) (G : Nat → Option (List AV)) (pol : FuncId → Nat) (call : Nat → Ask) (ops : Array Oper) : List Nat → Fr → St → Option (AExit × Fr × St × List Prop)
  | [], fr, σ => some (.normal, fr, σ, [])
  | i :: rest, fr, σ => match ops[i]? with
    | none => none
    | some o => match wantedA ops fr o with
      | some true => match runOp T G pol (call i) o fr σ with
        | some (.normal, fr', σ', ps) => match runIdx T G pol call ops rest fr' σ' with
          | some (ae, fr2, σ2, qs) => some (ae, fr2, σ2, ps ++ qs)
          | none => none
        | r => r
      | some false => runIdx T G pol call ops rest (fr.put o.dst .undef) σ
      | none => none

variable {pol : FuncId → Nat}

theorem evCall_sound {call : Ask} (hc : AskOk2 P G pol call) {f : FuncId} {args : List AV} {σ σ' : St} {out : AOut} {ps : List Prop} (h : evCall pol call f args σ = some (out, σ', ps)) (hps : AllP ps) : CallOk P G f args σ out σ' := by
  unfold evCall at h
  split at h
  · split at h <;> try cases h
    rename_i r hr
    split at h <;> cases h
    rename_i ha
    obtain ⟨h1, h2, h3⟩ := St.app_spec ha
    intro C vs hI hF hv
    refine (giveCall_core hc.x hr hps hI hv).mono fun e w ⟨C', q1, q2, q3, q4, q5⟩ => ⟨C', q1, q2, ?_, ?_, q5⟩
    · rw [h1, h2]; exact q3
    · intro id hid
      rw [h3] at hid
      rw [q4]
      exact hF id (by omega)
  · split at h <;> try cases h
    rename_i r hr
    split at h <;> cases h
    rename_i ha
    obtain ⟨h1, h2, h3⟩ := St.app_spec ha
    intro C vs hI hF hv
    refine (borrowCall_core (hc.b f ‹_›) hr hps hI (fun k _ => hF _ (by omega)) hv).mono fun e w ⟨C', q1, q2, q3, q4, q5⟩ => ⟨C', q1, q2, ?_, ?_, q5⟩
    · rw [h1, h2]; exact q3
    · intro id hid
      rw [h3] at hid
      rcases q4 id with h | h
      · rw [h]; exact hF id (by omega)
      · omega
  · split at h <;> try cases h
    rename_i r hr
    split at h <;> cases h
    rename_i ha
    obtain ⟨h1, h2, h3⟩ := St.app_spec ha
    intro C vs hI hF hv
    refine (ownCall_core hc.x hr hps hI (fun k _ => hF _ (by omega)) hv).mono fun e w ⟨C', q1, q2, q3, q4, q5⟩ => ⟨C', q1, q2, ?_, ?_, q5⟩
    · rw [h1, h2]; exact q3
    · intro id hid
      rw [h3] at hid
      rcases q4 id with h | h
      · rw [h]; exact hF id (by omega)
      · omega

theorem run_enter (hT : T.Ok P) {k : FuncId} (hk : T.fnk k = true) (args : Array Value) (w : World) : (callFunc k args).run P w = .ok (.enter k args) w := by
  obtain ⟨fn, h1, h2, h3⟩ := hT.fnk k hk
  cases hb : fn.body with
  | none => simp [hb] at h2
  | some c =>
    have : (fn.name = "runtime.NumGoroutine") = False := by simpa using h3
    simp [callFunc, h1, this, hb]

theorem Rel.ops {C C' : Ctx} {fr : Fr} {σ σ' : St} {a : Act} (h : Rel P G C fr σ a) {e : Eff} (happ : σ.app e.m e.ups = some σ') (hE : Ext C C') (hI : Inv P G C' (applyUps σ.g e.ups) σ.dep)
    (hφ : ∀ id, C'.φ id = C.φ id ∨ (σ.objs.length ≤ id ∧ id < σ.objs.length + e.m)) {dst : Option Tmp} {u : Value} (hr : Rd P C'.w C'.S C'.φ e.v u) : Rel P G C' (fr.put dst e.v) σ' (a.put dst u) := by
  obtain ⟨h1, h2, h3⟩ := St.app_spec happ
  refine h.next hE (by rw [h1, h2]; exact hI) (fun id hid => ?_) hr
  rcases hφ id with h4 | h4
  · rw [h4]; exact h.fresh id (by omega)
  · omega

theorem runOp_sound {call : Ask} (hT : T.Ok P) (hc : AskOk2 P G pol call) {o : Oper} {fr fr' : Fr} {σ σ' : St} {ae : AExit} {ps : List Prop} (h : runOp T G pol call o fr σ = some (ae, fr', σ', ps)) (hps : AllP ps) {C C0 : Ctx} {a : Act} (hR : Rel P G C fr σ a) (hE0 : Ext C0 C)
    {K : Act → World → Prop} {Q : Exit → Act → World → Prop}
    (hK : ∀ C' a', ae = .normal → Ext C0 C' → Rel P G C' fr' σ' a' → K a' C'.w)
    (hQ : ∀ C' e, ae ≠ .normal → Ext C0 C' → Rel P G C' fr' σ' a → ERd P C' ae e → Q e a C'.w) : o.wp P a C.w K Q := by
  have hρ := aeval_rd hR
  obtain ⟨dst, op, type, pos, after, guard⟩ := o
  have step : ∀ (hh : (match astep T (aeval G fr) σ.g σ.objs.length op with
    | some e => match σ.app e.m e.ups with
      | some σ' => some (AExit.normal, fr.put dst e.v, σ', [])
      | none => none
    | none => none) = some (ae, fr', σ', ps)), Oper.wp P { dst, op, type, pos, after, guard } a C.w K Q := by
    intro hh
    split at hh <;> try cases hh
    rename_i e he
    split at hh <;> cases hh
    rename_i σ1 happ
    have hs := astep_sound (P := P) (G := G) (C := C) (g := σ.g) (d := σ.dep) (h := σ.objs.length) (ρr := a.eval) (o := { dst, op, type, pos, after, guard }) hT hR.inv hρ he
    obtain ⟨v, C', hrun, _, hE, hI, hr, hφ⟩ := hs (fun k _ => hR.fresh _ (Nat.le_add_right _ _))
    unfold Oper.wp
    rcases hrun with hrun | ⟨hrun, rfl⟩
    · rw [hrun, Oper.upon_value]
      exact hK C' _ rfl (hE0.trans hE) (hR.ops happ hE hI hφ hr)
    · rw [hrun, Oper.upon_skip]
      exact hK C' _ rfl (hE0.trans hE) (hR.ops happ hE hI hφ hr)
  cases op <;> (try (exact step (by simpa only [runOp] using h)))
  case call c =>
    obtain ⟨callee, args, argTypes⟩ := c
    cases callee with
    | builtin b => exact step (by simpa only [runOp] using h)
    | invoke r m => exact step (by simpa only [runOp] using h)
    | value f =>
      simp only [runOp] at h
      split at h <;> try cases h
      rename_i k fs cs as hf has
      split at h <;> try cases h
      rename_i hk
      have hfv := hρ _ _ hf
      simp only [Rd] at hfv
      obtain ⟨vs, ws, hfe, hvs, hws⟩ := hfv
      have hargs := argsM_rd hρ _ _ has
      have hrun : (execOp a.eval { dst, op := .call { callee := .value f, args, argTypes }, type, pos, after, guard }).run P C.w = .ok (.enter k ⟨vs ++ args.toList.map a.eval ++ ws⟩) C.w := by
        have e1 : (⟨vs⟩ ++ args.map a.eval ++ ⟨ws⟩ : Array Value) = ⟨vs ++ args.toList.map a.eval ++ ws⟩ := by apply Array.ext'; simp
        simp only [execOp, resolve, hfe, Deferred.ofValue, Sem.run_bind, Sem.run_pure, Result.andThen_ok, invoke, e1]
        exact run_enter hT hk _ _
      unfold Oper.wp
      rw [hrun, Oper.upon_enter]
      split at h <;> try cases h
      · rename_i v hev
        refine (evCall_sound hc hev hps C _ hR.inv hR.fresh ((hvs.append hargs).append hws)).mono fun e w' ⟨C', hw, hE, hI, hF, u, he, hu⟩ => ?_
        subst he; subst hw
        exact hK C' _ rfl (hE0.trans hE) (hR.next hE hI hF hu)
      · rename_i v hev
        refine (evCall_sound hc hev hps C _ hR.inv hR.fresh ((hvs.append hargs).append hws)).mono fun e w' ⟨C', hw, hE, hI, hF, u, he, hu⟩ => ?_
        subst he; subst hw
        exact hQ C' _ (by simp) (hE0.trans hE) ⟨hI, hF, hR.tmps.ext hE, hR.defs.ext hE⟩ ⟨u, rfl, hu⟩
  case panic x =>
    simp only [runOp] at h
    split at h <;> cases h
    rename_i t v hx
    have hxv := hρ _ _ hx
    have hxv' := hxv
    simp only [Rd] at hxv
    obtain ⟨u, hu, _⟩ := hxv
    have hrun : (execOp a.eval { dst, op := .panic x, type, pos, after, guard }).run P C.w = .halt (.panic (.iface t u)) C.w := by
      simp [execOp, Instr.panic, hu]
    unfold Oper.wp
    rw [hrun, Oper.upon_panic]
    exact hQ C _ (by simp) hE0 hR ⟨_, rfl, by rw [← hu]; exact hxv'⟩
  case defer c =>
    obtain ⟨callee, args, argTypes⟩ := c
    cases callee with
    | builtin b => exact step (by simpa only [runOp] using h)
    | invoke r m => exact step (by simpa only [runOp] using h)
    | value f =>
      simp only [runOp] at h
      split at h <;> cases h
      rename_i fn fs cs as hf has
      have hfv := hρ _ _ hf
      simp only [Rd] at hfv
      obtain ⟨vs, ws, hfe, hvs, hws⟩ := hfv
      have hargs := argsM_rd hρ _ _ has
      have hrun : (execOp a.eval { dst, op := .defer { callee := .value f, args, argTypes }, type, pos, after, guard }).run P C.w = .ok (.defer { target := .fn fn ⟨ws⟩, args := ⟨vs ++ args.toList.map a.eval⟩ }) C.w := by
        have e1 : (⟨vs⟩ ++ args.map a.eval : Array Value) = ⟨vs ++ args.toList.map a.eval⟩ := by apply Array.ext'; simp
        simp [execOp, resolve, hfe, Deferred.ofValue, e1]
      unfold Oper.wp
      rw [hrun, Oper.upon_defer]
      have hR' : Rel P G C { fr with defs := ⟨fn, fs ++ as, cs⟩ :: fr.defs } σ { a with defers := { target := .fn fn ⟨ws⟩, args := ⟨vs ++ args.toList.map a.eval⟩ } :: a.defers } :=
        ⟨hR.inv, hR.fresh, hR.tmps, by simp only [RdD]; exact ⟨_, _, _, rfl, hvs.append hargs, hws, hR.defs⟩⟩
      exact hK C _ rfl hE0 (hR'.next (Ext.refl C) hR.inv hR.fresh rd_undef)

/-- The operations in a row. -/
theorem runIdx_sound {call : Nat → Ask} (hT : T.Ok P) (hc : ∀ i, AskOk2 P G pol (call i)) {ops : Array Oper} : ∀ (l : List Nat) {fr fr' : Fr} {σ σ' : St} {ae : AExit} {ps : List Prop}, runIdx T G pol call ops l fr σ = some (ae, fr', σ', ps) → AllP ps → ∀ {C C0 : Ctx} {a : Act}, Rel P G C fr σ a → Ext C0 C →
    wpOps P ops (Post P G C0 ae fr' σ') l a C.w
  | [], fr, fr', σ, σ', ae, ps, h, hps, C, C0, a, hR, hE => by
    simp only [runIdx, Option.some.injEq, Prod.mk.injEq] at h
    obtain ⟨rfl, rfl, rfl, rfl⟩ := h
    simp only [wpOps]
    exact ⟨C, rfl, hE, hR, rfl⟩
  | i :: rest, fr, fr', σ, σ', ae, ps, h, hps, C, C0, a, hR, hE => by
    simp only [runIdx] at h
    split at h <;> try cases h
    rename_i o ho
    simp only [wpOps, ho]
    split at h <;> try cases h
    · rename_i hw
      rw [wanted_rd hR.tmps hw, if_pos rfl]
      refine .inl ?_
      cases hop : runOp T G pol (call i) o fr σ with
      | none => simp [hop] at h
      | some r =>
        obtain ⟨ae1, fr1, σ1, ps1⟩ := r
        rw [hop] at h
        by_cases hn : ae1 = .normal
        · subst hn
          simp only at h
          split at h <;> cases h
          rename_i qs hrest
          rw [AllP.append] at hps
          exact runOp_sound hT (hc i) hop hps.1 hR hE (fun C' a' _ hE' hR' => runIdx_sound hT hc rest hrest hps.2 hR' hE') (fun _ _ hne => absurd rfl hne)
        · have h' : some (ae1, fr1, σ1, ps1) = some (ae, fr', σ', ps) := by cases ae1 <;> first | exact absurd rfl hn | exact h
          cases h'
          exact runOp_sound hT (hc i) hop hps hR hE (fun _ _ hne => absurd hne hn) (fun C' e _ hE' hR' he => ⟨C', rfl, hE', hR', he⟩)
    · rename_i hw
      rw [wanted_rd hR.tmps hw, if_neg (by simp)]
      exact runIdx_sound hT hc rest h hps (hR.next (Ext.refl C) hR.inv hR.fresh rd_undef) hE

end Go.Vid

/-
What an operation of the abstract machine hangs on: its operands, and the own objects that it tells as read.
-/
namespace Go.Vid

variable {P : Program} {G : Nat → Option (List AV)} {T : Tab}

theorem argsM_congr {ρ ρ' : Operand → Option AV} : ∀ (xs : List Operand), (∀ x ∈ xs, ρ x = ρ' x) → argsM ρ xs = argsM ρ' xs
  | [], _ => rfl
  | x :: xs, h => by simp only [argsM]; rw [h x (by simp), argsM_congr xs fun y hy => h y (by simp [hy])]

theorem partsM_congr {ρ ρ' : Operand → Option AV} : ∀ (xs : List (Nat × Operand)), (∀ x ∈ xs, ρ x.2 = ρ' x.2) → partsM ρ xs = partsM ρ' xs
  | [], _ => rfl
  | (i, x) :: xs, h => by simp only [partsM]; rw [h (i, x) (by simp), partsM_congr xs fun y hy => h y (by simp [hy])]

theorem optM_congr {ρ ρ' : Operand → Option AV} (x : Option Operand) (h : ∀ y ∈ x.toArray, ρ y = ρ' y) : optM ρ x = optM ρ' x := by
  cases x with
  | none => rfl
  | some o => simp only [optM]; rw [h o (by simp)]

theorem astep_congr {ρ ρ' : Operand → Option AV} {g : Nat → Option AObj} {h : Nat} {o : Op} (hρ : ∀ x ∈ o.operands, ρ x = ρ' x) : astep T ρ g h o = astep T ρ' g h o := by
  cases o <;> simp only [Op.operands] at hρ <;> simp only [astep]
  case build t ps => rw [partsM_congr ps.toList fun x hx => hρ x.2 (by simp only [List.mem_toArray, List.mem_map]; exact ⟨x, hx, rfl⟩)]
  case buildSlice t n ps => rw [partsM_congr ps.toList fun x hx => hρ x.2 (by simp only [List.mem_toArray, List.mem_map]; exact ⟨x, hx, rfl⟩)]
  case makeFunc fn first cap => rw [argsM_congr first.toList fun x hx => hρ x (by simp [Array.mem_toList_iff.1 hx]), argsM_congr cap.toList fun x hx => hρ x (by simp [Array.mem_toList_iff.1 hx])]
  case slice t x lo hi mx =>
    rw [hρ x (by simp), optM_congr lo fun y hy => hρ y (by simp [hy]), optM_congr hi fun y hy => hρ y (by simp [hy]), optM_congr mx fun y hy => hρ y (by simp [hy])]
  case call c =>
    obtain ⟨callee, args, argTypes⟩ := c
    cases callee with
    | builtin b => simp only [Call.operands] at hρ ⊢; rw [argsM_congr args.toList fun x hx => hρ x (by simp [Array.mem_toList_iff.1 hx])]
    | _ => rfl
  all_goals (first | rfl | (simp only [Array.mem_def, List.mem_cons, List.not_mem_nil, or_false, forall_eq_or_imp, forall_eq] at hρ; simp only [hρ]) | (simp_all; done))

theorem cellsFrom_local {g g' : Nat → Option AObj} {p : AV} {cs : List AV} {rd : List Nat} (h : cellsFrom g p = some (cs, rd)) (hg : ∀ i ∈ rd, g' i = g i) : cellsFrom g' p = some (cs, rd) := by
  cases p <;> simp only [cellsFrom] at h ⊢ <;> try exact h
  rename_i id off
  split at h <;> cases h
  rename_i c e gr h0
  rw [hg id (by simp), h0]

theorem srcCells_local {g g' : Nat → Option AObj} {sz n : Nat} {x : AV} {cs : List AV} {rd : List Nat} (h : srcCells g sz x = some (n, cs, rd)) (hg : ∀ i ∈ rd, g' i = g i) : srcCells g' sz x = some (n, cs, rd) := by
  cases x <;> simp only [srcCells] at h ⊢ <;> try exact h
  rename_i id off len cap
  split at h <;> try cases h
  rename_i c e gr h0
  split at h <;> cases h
  rename_i hle
  rw [hg id (by simp), h0]
  simp [hle]

theorem astep_local {ρ : Operand → Option AV} {g g' : Nat → Option AObj} {h : Nat} {o : Op} {e : Eff} (he : astep T ρ g h o = some e) (hg : ∀ i ∈ e.rds, g' i = g i) : astep T ρ g' h o = some e := by
  cases o <;> simp only [astep] at he ⊢ <;> (try exact he)
  case load t p =>
    cases hp : ρ p with
    | none => simp [hp] at he
    | some p' =>
      simp only [hp, Option.bind_some] at he ⊢
      unfold aLoad at he ⊢
      split at he <;> try cases he
      rename_i cs rd hc
      simp only [Option.map_eq_some_iff] at he
      obtain ⟨v, hv, rfl⟩ := he
      rw [cellsFrom_local hc hg]
      simp [hv]
  case store t p x =>
    split at he <;> try cases he
    rename_i p' x' hp hx
    unfold aStore at he ⊢
    split at he <;> try cases he
    rename_i id off
    split at he <;> try cases he
    rename_i cs e' gr h0
    split at he <;> cases he
    rename_i hc
    rw [hg id (by simp), h0]
    simp only [if_pos hc]
  case convert s t x =>
    cases hx : ρ x with
    | none => simp [hx] at he
    | some x' =>
      simp only [hx, Option.bind_some] at he ⊢
      unfold aConv at he ⊢
      split at he <;> try exact he
      rotate_left
      · split at he <;> try cases he
        rename_i hu ho
        split at he <;> cases he
        rename_i hsd
        rw [hu, hg _ (by simp), ho]
        simp only [hsd, if_true]
      split at he <;> try cases he
      split at he <;> try cases he
      rename_i n cs rd hs
      have hrd : e.rds = rd := by
        split at he <;> try cases he
        all_goals
          simp only [Option.map_eq_some_iff] at he
          obtain ⟨_, _, rfl⟩ := he
          rfl
      rw [srcCells_local hs (by rw [← hrd]; exact hg)]
      exact he
  case call c =>
    obtain ⟨callee, args, argTypes⟩ := c
    cases callee with
    | value f => exact he
    | invoke r m => exact he
    | builtin b =>
      simp only at he ⊢
      split at he <;> try cases he
      rename_i as has
      cases b <;> simp only at he ⊢ <;> (try exact he)
      case append =>
        unfold aAppend at he ⊢
        split at he <;> try cases he
        rename_i t u s x
        split at he <;> try cases he
        rename_i el du ht hu
        split at he <;> try cases he
        split at he <;> try cases he
        rename_i hdu _ sz' by_ z hs hb hz
        cases hq : srcCells g (sz' + 1) x with
        | none => simp [hq] at he
        | some q =>
          obtain ⟨n, xs, rd⟩ := q
          simp only [hq] at he
          by_cases hn : n = 0
          · simp only [hn, if_true] at he
            have hrd : e.rds = rd := by split at he <;> cases he <;> rfl
            dsimp only
            rw [srcCells_local hq (by rw [← hrd]; exact hg)]
            simp only [hn, if_true]
            exact he
          · simp only [hn, if_false] at he
            have hsub : ∀ i ∈ rd, i ∈ e.rds := by
              intro i hi
              split at he <;> try cases he
              · split at he <;> cases he; exact hi
              · split at he <;> try cases he
                split at he
                · split at he
                  · split at he <;> cases he; exact List.mem_cons_of_mem _ hi
                  · split at he <;> cases he; exact List.mem_cons_of_mem _ hi
                · split at he <;> cases he; exact List.mem_cons_of_mem _ hi
            dsimp only
            rw [srcCells_local hq (fun i hi => hg i (hsub i hi))]
            simp only [hn, if_false]
            split at he <;> try exact he
            rename_i id off len cap
            have hid : g' id = g id := by
              refine hg id ?_
              split at he <;> try cases he
              split at he
              · split at he
                · split at he <;> cases he; simp
                · split at he <;> cases he; simp
              · split at he <;> cases he; simp
            rw [hid]
            exact he
      case copy =>
        unfold aCopy at he ⊢
        split at he <;> try cases he
        rename_i t ts dst x
        split at he <;> try cases he
        split at he <;> try cases he
        rename_i sz hs
        cases hq : srcCells g sz x with
        | none => simp [hq] at he
        | some q =>
          obtain ⟨n, xs, rd⟩ := q
          simp only [hq] at he
          have hsub : ∀ i ∈ rd, i ∈ e.rds := by
            intro i hi
            split at he <;> try cases he
            · split at he <;> try cases he
              split at he <;> cases he; exact List.mem_cons_of_mem _ hi
            · exact hi
          rw [srcCells_local hq (fun i hi => hg i (hsub i hi))]
          simp only
          split at he <;> try exact he
          rename_i id off len cap
          have hid : g' id = g id := by
            refine hg id ?_
            split at he <;> try cases he
            split at he <;> cases he; simp
          rw [hid]
          exact he

end Go.Vid

/-
A region whose order the model draws: one run in the order of the text serves for every order, where a check on the run finds no two operations that might meet.
-/
namespace Go.Vid

variable {P : Program} {G : Nat → Option (List AV)} {T : Tab}

structure Rec where
  ran : Bool
  v : AV
  ups : List (Nat × Option AObj)
  rds : List Nat
  m : Nat
  hd : Nat
  ps : List Prop
  deriving Inhabited

/-! folds over the operations that have been carried out -/
def putT (l : List AV) (dst : Option Tmp) (v : AV) : List AV := match dst with
  | some t => l.set t v
  | none => l

def tF (dst : Nat → Option Tmp) (v : Nat → AV) (t0 : List AV) (X : Nat → Bool) : Nat → List AV
  | 0 => t0
  | n + 1 => if X n = true then putT (tF dst v t0 X n) (dst n) (v n) else tF dst v t0 X n

def gF (ups : Nat → List (Nat × Option AObj)) (g0 : Nat → Option AObj) (X : Nat → Bool) : Nat → Nat → Option AObj
  | 0 => g0
  | n + 1 => if X n = true then applyUps (gF ups g0 X n) (ups n) else gF ups g0 X n

theorem length_putT (l : List AV) (d : Option Tmp) (v : AV) : (putT l d v).length = l.length := by cases d <;> simp [putT]

theorem length_tF {dst : Nat → Option Tmp} {v : Nat → AV} {t0 : List AV} {X : Nat → Bool} : ∀ n, (tF dst v t0 X n).length = t0.length
  | 0 => rfl
  | n + 1 => by simp only [tF]; split <;> simp [length_putT, length_tF n]

theorem get_putT_same {l l' : List AV} (hl : l.length = l'.length) {d : Option Tmp} {v : AV} {t : Nat} (h : l[t]? = l'[t]?) : (putT l d v)[t]? = (putT l' d v)[t]? := by
  cases d with
  | none => exact h
  | some s =>
    simp only [putT, List.getElem?_set]
    split
    · simp [hl]
    · exact h

theorem get_putT_ne {l : List AV} {d : Option Tmp} {v : AV} {t : Nat} (h : d ≠ some t) : (putT l d v)[t]? = l[t]? := by
  cases d with
  | none => rfl
  | some s => simp only [putT]; exact List.getElem?_set_ne (fun e => h (by rw [e]))

theorem tF_agree {dst : Nat → Option Tmp} {v : Nat → AV} {t0 : List AV} {X Y : Nat → Bool} {t : Nat} : ∀ n, (∀ j, j < n → dst j = some t → X j = Y j) → (tF dst v t0 X n)[t]? = (tF dst v t0 Y n)[t]?
  | 0, _ => rfl
  | n + 1, h => by
    have ih := tF_agree (v := v) (t0 := t0) n fun j hj => h j (Nat.lt_succ_of_lt hj)
    simp only [tF]
    by_cases hd : dst n = some t
    · rw [h n (Nat.lt_succ_self n) hd]
      split
      · exact get_putT_same (by rw [length_tF, length_tF]) ih
      · exact ih
    · split <;> split <;> simp only [get_putT_ne hd, ih]

theorem putT_comm {l : List AV} {d e : Option Tmp} {v u : AV} (h : ∀ t, d = some t → e ≠ some t) : putT (putT l d v) e u = putT (putT l e u) d v := by
  cases d with
  | none => rfl
  | some s =>
    cases e with
    | none => rfl
    | some t => simp only [putT]; exact List.set_comm _ _ (fun e => h s rfl (by rw [e]))

theorem tF_insert {dst : Nat → Option Tmp} {v : Nat → AV} {t0 : List AV} {X : Nat → Bool} {i : Nat} (hX : X i = false) : ∀ n, i < n → (∀ j, i < j → j < n → X j = true → ∀ t, dst i = some t → dst j ≠ some t) →
    tF dst v t0 (fun j => X j || j == i) n = putT (tF dst v t0 X n) (dst i) (v i)
  | 0, h, _ => by omega
  | n + 1, h, hd => by
    by_cases e : n = i
    · subst e
      have : ∀ m, m ≤ n → tF dst v t0 (fun j => X j || j == n) m = tF dst v t0 X m := by
        intro m
        induction m with
        | zero => intro _; rfl
        | succ m ih =>
          intro hm
          simp only [tF]
          rw [ih (by omega)]
          have : (m == n) = false := by simp; omega
          simp [this]
      simp only [tF]
      rw [this n (Nat.le_refl _)]
      simp [hX]
    · have ih := tF_insert (v := v) (t0 := t0) hX n (by omega) fun j h1 h2 => hd j h1 (by omega)
      simp only [tF]
      rw [ih]
      have : (n == i) = false := by simp [e]
      simp only [this, Bool.or_false]
      split
      · rename_i hx
        exact putT_comm (hd n (by omega) (by omega) hx)
      · rfl

def ids (us : List (Nat × Option AObj)) : List Nat := us.map (·.1)

theorem applyUps_other : ∀ (us : List (Nat × Option AObj)) (g : Nat → Option AObj) {i : Nat}, i ∉ ids us → applyUps g us i = g i
  | [], _, _, _ => rfl
  | (k, o) :: r, g, i, h => by
    simp only [ids, List.map_cons, List.mem_cons, not_or] at h
    simp only [applyUps]
    rw [applyUps_other r _ h.2, upd_other _ _ h.1]

theorem applyUps_same : ∀ (us : List (Nat × Option AObj)) (g g' : Nat → Option AObj) {i : Nat}, (i ∈ ids us ∨ g i = g' i) → applyUps g us i = applyUps g' us i
  | [], _, _, _, h => h.elim (fun h => by simp [ids] at h) id
  | (k, o) :: r, g, g', i, h => by
    simp only [applyUps]
    refine applyUps_same r _ _ ?_
    by_cases e : i = k
    · subst e; exact .inr (by simp)
    · rcases h with h | h
      · simp only [ids, List.map_cons, List.mem_cons] at h
        exact .inl (h.resolve_left e)
      · exact .inr (by rw [upd_other _ _ e, upd_other _ _ e]; exact h)

theorem applyUps_comm {us vs : List (Nat × Option AObj)} (h : ∀ i ∈ ids us, i ∉ ids vs) (g : Nat → Option AObj) : applyUps (applyUps g us) vs = applyUps (applyUps g vs) us := by
  funext i
  by_cases h1 : i ∈ ids us
  · rw [applyUps_other vs _ (h i h1)]
    exact applyUps_same us _ _ (.inl h1)
  · rw [applyUps_other us _ h1]
    exact applyUps_same vs _ _ (.inr (applyUps_other us _ h1))

theorem gF_agree {ups : Nat → List (Nat × Option AObj)} {g0 : Nat → Option AObj} {X Y : Nat → Bool} {i : Nat} : ∀ n, (∀ j, j < n → i ∈ ids (ups j) → X j = Y j) → gF ups g0 X n i = gF ups g0 Y n i
  | 0, _ => rfl
  | n + 1, h => by
    have ih := gF_agree (g0 := g0) n fun j hj => h j (Nat.lt_succ_of_lt hj)
    simp only [gF]
    by_cases hd : i ∈ ids (ups n)
    · rw [h n (Nat.lt_succ_self n) hd]
      split
      · exact applyUps_same _ _ _ (.inl hd)
      · exact ih
    · split <;> split <;> simp only [applyUps_other _ _ hd, ih]

theorem gF_insert {ups : Nat → List (Nat × Option AObj)} {g0 : Nat → Option AObj} {X : Nat → Bool} {i : Nat} (hX : X i = false) : ∀ n, i < n → (∀ j, i < j → j < n → X j = true → ∀ k ∈ ids (ups i), k ∉ ids (ups j)) →
    gF ups g0 (fun j => X j || j == i) n = applyUps (gF ups g0 X n) (ups i)
  | 0, h, _ => by omega
  | n + 1, h, hd => by
    by_cases e : n = i
    · subst e
      have : ∀ m, m ≤ n → gF ups g0 (fun j => X j || j == n) m = gF ups g0 X m := by
        intro m
        induction m with
        | zero => intro _; rfl
        | succ m ih =>
          intro hm
          simp only [gF]
          rw [ih (by omega)]
          have : (m == n) = false := by simp; omega
          simp [this]
      simp only [gF]
      rw [this n (Nat.le_refl _)]
      simp [hX]
    · have ih := gF_insert (g0 := g0) hX n (by omega) fun j h1 h2 => hd j h1 (by omega)
      simp only [gF]
      rw [ih]
      have : (n == i) = false := by simp [e]
      simp only [this, Bool.or_false]
      split
      · rename_i hx
        exact applyUps_comm (hd n (by omega) (by omega) hx) _
      · rfl

/-! what comes ahead of what -/
def edgeMask (acc : List Nat) : List Edge → Nat
  | [] => 0
  | e :: es => (if Region.binds .any e = true then 2 ^ e.on ||| acc.getD e.on 0 else 0) ||| edgeMask acc es

def masks : List Oper → List Nat → List Nat
  | [], acc => acc
  | o :: r, acc => masks r (acc ++ [edgeMask acc o.after.toList])

theorem edgeMask_bit {acc : List Nat} : ∀ (es : List Edge) (t : Nat), (edgeMask acc es).testBit t = true → ∃ e ∈ es, Region.binds .any e = true ∧ (t = e.on ∨ (acc.getD e.on 0).testBit t = true)
  | [], t, h => by simp [edgeMask] at h
  | e :: es, t, h => by
    simp only [edgeMask, Nat.testBit_or, Bool.or_eq_true] at h
    rcases h with h | h
    · split at h
      · rename_i hb
        rw [Nat.testBit_or, Bool.or_eq_true, Nat.testBit_two_pow] at h
        refine ⟨e, by simp, hb, ?_⟩
        rcases h with h | h
        · left; simpa using (of_decide_eq_true h).symm
        · exact .inr h
      · simp at h
    · obtain ⟨x, hx, hr⟩ := edgeMask_bit es t h
      exact ⟨x, by simp [hx], hr⟩

/-- A set that holds with each operation those that its edges name, holds all that come ahead of it. -/
theorem masks_closed {D : Nat → Bool} : ∀ (os : List Oper) (acc : List Nat), (∀ j t, j < acc.length → (acc.getD j 0).testBit t = true → D j = true → D t = true) →
    (∀ k o, os[k]? = some o → D (acc.length + k) = true → ∀ e ∈ o.after, Region.binds .any e = true → D e.on = true ∧ e.on < acc.length + k) →
    ∀ j t, ((masks os acc).getD j 0).testBit t = true → D j = true → D t = true
  | [], acc, h1, _ => fun j t hb hj => by
    by_cases hlt : j < acc.length
    · exact h1 j t hlt hb hj
    · simp only [masks, List.getD_eq_getElem?_getD, List.getElem?_eq_none (by omega : acc.length ≤ j), Option.getD_none, Nat.zero_testBit] at hb
      cases hb
  | o :: r, acc, h1, h2 => by
    refine masks_closed r (acc ++ [edgeMask acc o.after.toList]) ?_ ?_
    · intro j t hj hb hD
      by_cases e : j < acc.length
      · rw [List.getD_eq_getElem?_getD, List.getElem?_append_left e, ← List.getD_eq_getElem?_getD] at hb
        exact h1 j t e hb hD
      · have e2 : j = acc.length := by simp at hj; omega
        subst e2
        simp only [List.getD_eq_getElem?_getD, List.getElem?_append_right (Nat.le_refl _), Nat.sub_self, List.getElem?_cons_zero, Option.getD_some] at hb
        obtain ⟨x, hx, hbd, hr⟩ := edgeMask_bit _ _ hb
        obtain ⟨q1, q2⟩ := h2 0 o (by simp) (by simpa using hD) x (Array.mem_toList_iff.1 hx) hbd
        rcases hr with rfl | hr
        · exact q1
        · exact h1 _ t (by omega) hr q1
    · intro k o' hk hD e he hb
      have := h2 (k + 1) o' (by simpa using hk) (by simp at hD; rwa [show acc.length + (k + 1) = acc.length + 1 + k by omega]) e he hb
      simp only [List.length_append, List.length_singleton]
      rwa [show acc.length + 1 + k = acc.length + (k + 1) by omega]

end Go.Vid

/-
A region whose order the model draws (second part): the theorem.
-/
namespace Go.Vid

variable {P : Program} {G : Nat → Option (List AV)} {T : Tab}

section
variable (T : Tab) (G : Nat → Option (List AV)) (pol : FuncId → Nat) (call : Ask)

/-- One operation of a region that draws: no call that may write, no panic. -/
def locStep (o : Op) (fr : Fr) (g : Nat → Option AObj) (hd dep : Nat) : Option (Eff × List Prop) :=
  match o with
  | .call { callee := .value f, args, .. } => match aeval G fr f, argsM (aeval G fr) args.toList with
    | some (.func (.func k) fs cs), some as =>
      if T.fnk k = true then
        match pol k with
        | 0 => match giveCall call k (fs ++ as ++ cs) g dep with
          | some ⟨.ret v, rd, ps⟩ => some (⟨v, rd.map fun i => (i, none), rd, 0⟩, ps)
          | _ => none
        | 2 => match borrowCall call k (fs ++ as ++ cs) g hd dep with
          | some ⟨.ret v, ups, rds, m, ps⟩ => some (⟨v, ups, rds, m⟩, ps)
          | _ => none
        | _ => match ownCall call k (fs ++ as ++ cs) g hd dep with
          | some ⟨.ret v, ups, rds, m, ps⟩ => some (⟨v, ups, rds, m⟩, ps)
          | _ => none
      else none
    | _, _ => none
  | .panic _ | .defer _ => none
  | op => match astep T (aeval G fr) g hd op with
    | some e => some (e, [])
    | none => none
end

def drawRun (T : Tab) (G : Nat → Option (List AV)) (pol : FuncId → Nat) (call : Nat → Ask) (ops : Array Oper) : List Nat → Fr → St → Option (List Rec × Fr × St)
  | [], fr, σ => some ([], fr, σ)
  | i :: rest, fr, σ => match ops[i]? with
    | none => none
    | some o =>
      match wantedA ops fr o with
      | some true => match locStep T G pol (call i) o.op fr σ.g σ.objs.length σ.dep with
        | none => none
        | some (e, ps) => match σ.app e.m e.ups with
          | none => none
          | some σ' => match drawRun T G pol call ops rest (fr.put o.dst e.v) σ' with
            | some (rs, r) => some (⟨true, e.v, e.ups, e.rds, e.m, σ.objs.length, ps⟩ :: rs, r)
            | none => none
      | some false => match drawRun T G pol call ops rest (fr.put o.dst .undef) σ with
        | some (rs, r) => some (⟨false, .undef, [], [], 0, σ.objs.length, []⟩ :: rs, r)
        | none => none
      | none => none

def compat (x y : Rec) : Bool :=
  (ids x.ups).all (fun i => !(y.rds.contains i) && !((ids y.ups).contains i)) && x.rds.all (fun i => !((ids y.ups).contains i))

def drawOk (ops : Array Oper) (recs : List Rec) : Bool :=
  (List.range ops.size).all (fun j => match ops[j]? with
    | none => false
    | some oj => oj.after.all (fun e => !Region.binds .any e || decide (e.on < j)) &&
      (List.range j).all (fun i => match ops[i]? with
        | none => false
        | some oi => ((masks ops.toList []).getD j 0).testBit i || (Oper.apart ops oi oj && compat (recs.getD i default) (recs.getD j default))))

def recPs : List Rec → List Prop
  | [] => []
  | r :: rs => r.ps ++ recPs rs

def evDraw (T : Tab) (G : Nat → Option (List AV)) (pol : FuncId → Nat) (call : Nat → Ask) (ops : Array Oper) (fr : Fr) (σ : St) : Option (AExit × Fr × St × List Prop) :=
  match drawRun T G pol call ops (List.range ops.size) fr σ with
  | none => none
  | some (recs, fr', σ') => if drawOk ops recs = true ∧ Region.noSelect ops = true then some (.normal, fr', σ', recPs recs) else none

theorem recPs_mem : ∀ {rs : List Rec}, AllP (recPs rs) → ∀ r ∈ rs, AllP r.ps
  | r :: rs, h, x, hx => by
    simp only [recPs, AllP.append] at h
    rcases List.mem_cons.1 hx with rfl | hx
    · exact h.1
    · exact recPs_mem h.2 x hx

variable {pol : FuncId → Nat} {call : Ask}

theorem aeval_congr {fr fr' : Fr} {x : Operand} (h : ∀ t, x = .tmp t → fr.tmps[t]? = fr'.tmps[t]?) : aeval G fr x = aeval G fr' x := by
  cases x with
  | tmp t => simp only [aeval, List.getD_eq_getElem?_getD, h t rfl]
  | _ => rfl

theorem mem_looks {ops : Array Oper} {o : Oper} {t : Tmp} (h : Operand.tmp t ∈ o.op.operands) : t ∈ o.looksAt ops := by
  unfold Oper.looksAt
  exact List.mem_append_left _ (List.mem_filterMap.2 ⟨.tmp t, by simpa using h, rfl⟩)

theorem locStep_congr {ops : Array Oper} {o : Oper} {fr fr' : Fr} {g : Nat → Option AObj} {hd dep : Nat} (h : ∀ t ∈ o.looksAt ops, fr.tmps[t]? = fr'.tmps[t]?) :
    locStep T G pol call o.op fr g hd dep = locStep T G pol call o.op fr' g hd dep := by
  have hx : ∀ x ∈ o.op.operands, aeval G fr x = aeval G fr' x := fun x hx => aeval_congr fun t e => h t (mem_looks (e ▸ hx))
  have ha : astep T (aeval G fr) g hd o.op = astep T (aeval G fr') g hd o.op := astep_congr hx
  cases ho : o.op <;> rw [ho] at ha hx <;> simp only [locStep] <;> try (rw [ha]; done)
  case call c =>
    obtain ⟨callee, args, argTypes⟩ := c
    cases callee with
    | builtin b => simp only; rw [ha]
    | invoke r m => simp only; rw [ha]
    | value f =>
      simp only [Op.operands, Call.operands] at hx
      dsimp only
      rw [hx f (by simp), argsM_congr args.toList fun x hm => hx x (by simp [Array.mem_toList_iff.1 hm])]

theorem locStep_local {o : Op} {fr : Fr} {g g' : Nat → Option AObj} {hd dep : Nat} {e : Eff} {ps : List Prop} (h : locStep T G pol call o fr g hd dep = some (e, ps)) (hg : ∀ i ∈ e.rds, g' i = g i) : locStep T G pol call o fr g' hd dep = some (e, ps) := by
  have st : ∀ op : Op, (match astep T (aeval G fr) g hd op with
    | some e => some (e, ([] : List Prop))
    | none => none) = some (e, ps) → (match astep T (aeval G fr) g' hd op with
    | some e => some (e, ([] : List Prop))
    | none => none) = some (e, ps) := by
    intro op ho
    split at ho <;> cases ho
    rename_i he
    rw [astep_local he hg]
  cases o <;> simp only [locStep] at h ⊢ <;> (try exact st _ h) <;> (try cases h)
  case call c =>
    obtain ⟨callee, args, argTypes⟩ := c
    cases callee with
    | builtin b => exact st (.call { callee := .builtin b, args := args, argTypes := argTypes }) h
    | invoke r m => exact st (.call { callee := .invoke r m, args := args, argTypes := argTypes }) h
    | value f =>
      simp only at h ⊢
      split at h <;> try cases h
      split at h <;> try cases h
      rename_i hk
      simp only [if_pos hk]
      split at h
      · split at h <;> cases h
        rename_i hp
        rw [giveCall_local hp hg]
      · split at h <;> cases h
        rename_i hp
        rw [borrowCall_local hp hg]
      · split at h <;> cases h
        rename_i hp
        rw [ownCall_local hp hg]

/-- What one operation of such a region does, in the model. -/
theorem locStep_sound (hT : T.Ok P) (hc : AskOk2 P G pol call) {o : Oper} {fr : Fr} {g : Nat → Option AObj} {hd dep : Nat} {e : Eff} {ps : List Prop} (h : locStep T G pol call o.op fr g hd dep = some (e, ps)) (hps : AllP ps) {C : Ctx} {a : Act}
    (hI : Inv P G C g dep) (ht : RdL P C.w C.S C.φ fr.tmps a.tmps.toList) (hfr : ∀ k, k < e.m → C.φ (hd + k) = none)
    {K : Act → World → Prop} {Q : Exit → Act → World → Prop}
    (hK : ∀ C' u, Ext C C' → Inv P G C' (applyUps g e.ups) dep → Rd P C'.w C'.S C'.φ e.v u → (∀ id, C'.φ id = C.φ id ∨ (hd ≤ id ∧ id < hd + e.m)) → K (a.put o.dst u) C'.w) : o.wp P a C.w K Q := by
  have hρ := aeval_rd' hI ht
  obtain ⟨dst, op, type, pos, after, guard⟩ := o
  have step0 : astep T (aeval G fr) g hd op = some e → Oper.wp P { dst, op, type, pos, after, guard } a C.w K Q := fun he => by
    have hs := astep_sound (P := P) (G := G) (C := C) (g := g) (d := dep) (h := hd) (ρr := a.eval) (o := { dst, op, type, pos, after, guard }) hT hI hρ he
    obtain ⟨v, C', hrun, _, hE, hI', hr, hφ⟩ := hs hfr
    unfold Oper.wp
    rcases hrun with hrun | ⟨hrun, rfl⟩
    · rw [hrun, Oper.upon_value]; exact hK C' _ hE hI' hr hφ
    · rw [hrun, Oper.upon_skip]; exact hK C' _ hE hI' hr hφ
  have step : (match astep T (aeval G fr) g hd op with
    | some e => some (e, ([] : List Prop))
    | none => none) = some (e, ps) → Oper.wp P { dst, op, type, pos, after, guard } a C.w K Q := fun ho => by
    split at ho <;> cases ho
    exact step0 ‹_›
  cases op <;> simp only [locStep] at h <;> (try exact step h) <;> (try cases h)
  case call c =>
    obtain ⟨callee, args, argTypes⟩ := c
    cases callee with
    | builtin b => simp only at h; exact step h
    | invoke r m => simp only at h; exact step h
    | value f =>
      simp only at h
      split at h <;> try cases h
      rename_i k fs cs as hf has
      split at h <;> try cases h
      rename_i hk
      have hfv := hρ _ _ hf
      simp only [Rd] at hfv
      obtain ⟨vs, ws, hfe, hvs, hws⟩ := hfv
      have hargs := argsM_rd hρ _ _ has
      have hrun : (execOp a.eval { dst, op := .call { callee := .value f, args, argTypes }, type, pos, after, guard }).run P C.w = .ok (.enter k ⟨vs ++ args.toList.map a.eval ++ ws⟩) C.w := by
        have e1 : (⟨vs⟩ ++ args.map a.eval ++ ⟨ws⟩ : Array Value) = ⟨vs ++ args.toList.map a.eval ++ ws⟩ := by apply Array.ext'; simp
        simp only [execOp, resolve, hfe, Deferred.ofValue, Sem.run_bind, Sem.run_pure, Result.andThen_ok, invoke, e1]
        exact run_enter hT hk _ _
      unfold Oper.wp
      rw [hrun, Oper.upon_enter]
      split at h
      · split at h <;> cases h
        rename_i v rd hp
        refine (giveCall_core hc.x hp hps hI ((hvs.append hargs).append hws)).mono fun e w' ⟨C', hw, hE, hI', hφ, u, he, hu⟩ => ?_
        subst he; subst hw
        exact hK C' u hE hI' hu fun id => .inl (by rw [hφ])
      · split at h <;> cases h
        rename_i hp
        refine (borrowCall_core (hc.b k ‹_›) hp hps hI hfr ((hvs.append hargs).append hws)).mono fun e w' ⟨C', hw, hE, hI', hφ, u, he, hu⟩ => ?_
        subst he; subst hw
        exact hK C' u hE hI' hu hφ
      · split at h <;> cases h
        rename_i hp
        refine (ownCall_core hc.x hp hps hI hfr ((hvs.append hargs).append hws)).mono fun e w' ⟨C', hw, hE, hI', hφ, u, he, hu⟩ => ?_
        subst he; subst hw
        exact hK C' u hE hI' hu hφ

end Go.Vid

/-
A region whose order the model draws (third part): whatever order is drawn, the run in the order of the text tells what comes.
-/
namespace Go.Vid

variable {P : Program} {G : Nat → Option (List AV)} {T : Tab}
variable {pol : FuncId → Nat} {call : Nat → Ask}

def recv (recs : List Rec) (j : Nat) : Rec := recs.getD j default
def dstOf (ops : Array Oper) (j : Nat) : Option Tmp := (ops[j]?).bind (·.dst)
def TT (ops : Array Oper) (recs : List Rec) (t0 : List AV) (X : Nat → Bool) (n : Nat) : List AV := tF (dstOf ops) (fun j => (recv recs j).v) t0 X n
def GG (recs : List Rec) (g0 : Nat → Option AObj) (X : Nat → Bool) (n : Nat) : Nat → Option AObj := gF (fun j => (recv recs j).ups) g0 X n
def allX : Nat → Bool := fun _ => true
def ltX (i : Nat) : Nat → Bool := fun j => decide (j < i)

theorem TT_lt {ops : Array Oper} {recs : List Rec} {t0 : List AV} {i : Nat} : ∀ n, i ≤ n → TT ops recs t0 (ltX i) n = TT ops recs t0 allX i
  | 0, h => by have : i = 0 := by omega
               subst this; rfl
  | n + 1, h => by
    by_cases e : i = n + 1
    · subst e
      have : ∀ m, m ≤ n + 1 → TT ops recs t0 (ltX (n + 1)) m = TT ops recs t0 allX m := by
        intro m
        induction m with
        | zero => intro _; rfl
        | succ m ih =>
          intro hm
          have ih := ih (by omega)
          unfold TT at ih ⊢
          simp only [tF]
          rw [ih]
          have h1 : ltX (n + 1) m = true := by simp [ltX]; omega
          simp [h1, allX]
      exact this _ (Nat.le_refl _)
    · have ih := TT_lt (ops := ops) (recs := recs) (t0 := t0) (i := i) n (by omega)
      unfold TT at ih ⊢
      simp only [tF]
      have : ltX i n = false := by simp [ltX]; omega
      rw [if_neg (by simp [this])]
      exact ih

theorem GG_lt {recs : List Rec} {g0 : Nat → Option AObj} {i : Nat} : ∀ n, i ≤ n → GG recs g0 (ltX i) n = GG recs g0 allX i
  | 0, h => by have : i = 0 := by omega
               subst this; rfl
  | n + 1, h => by
    by_cases e : i = n + 1
    · subst e
      have : ∀ m, m ≤ n + 1 → GG recs g0 (ltX (n + 1)) m = GG recs g0 allX m := by
        intro m
        induction m with
        | zero => intro _; rfl
        | succ m ih =>
          intro hm
          have ih := ih (by omega)
          unfold GG at ih ⊢
          simp only [gF]
          rw [ih]
          have h1 : ltX (n + 1) m = true := by simp [ltX]; omega
          simp [h1, allX]
      exact this _ (Nat.le_refl _)
    · have ih := GG_lt (recs := recs) (g0 := g0) (i := i) n (by omega)
      unfold GG at ih ⊢
      simp only [gF]
      have : ltX i n = false := by simp [ltX]; omega
      rw [if_neg (by simp [this])]
      exact ih

theorem wantedA_congr {ops : Array Oper} {o : Oper} {fr fr' : Fr} (h : ∀ t ∈ o.looksAt ops, fr.tmps[t]? = fr'.tmps[t]?) : wantedA ops fr o = wantedA ops fr' o := by
  unfold wantedA
  cases hg : o.guard with
  | none => rfl
  | some jw =>
    obtain ⟨j, want⟩ := jw
    simp only
    cases hd : (ops[j]?).bind (·.dst) with
    | none => rfl
    | some t =>
      simp only
      rw [h t (by simp [Oper.looksAt, hg, hd])]

/-- One step of the run in the order of the text. -/
def StepAt (T : Tab) (G : Nat → Option (List AV)) (pol : FuncId → Nat) (call : Nat → Ask) (ops : Array Oper) (recs : List Rec) (fr0 : Fr) (g0 : Nat → Option AObj) (dep i : Nat) : Prop :=
  ∃ o, ops[i]? = some o ∧ wantedA ops ⟨TT ops recs fr0.tmps allX i, fr0.defs⟩ o = some (recv recs i).ran ∧
    ((recv recs i).ran = true → locStep T G pol (call i) o.op ⟨TT ops recs fr0.tmps allX i, fr0.defs⟩ (GG recs g0 allX i) (recv recs i).hd dep = some (⟨(recv recs i).v, (recv recs i).ups, (recv recs i).rds, (recv recs i).m⟩, (recv recs i).ps)) ∧
    ((recv recs i).ran = false → (recv recs i).v = .undef ∧ (recv recs i).ups = [] ∧ (recv recs i).m = 0)

theorem putFr (fr : Fr) (d : Option Tmp) (v : AV) : fr.put d v = ⟨putT fr.tmps d v, fr.defs⟩ := by cases d <;> rfl

theorem drawRun_ok {ops : Array Oper} {recs : List Rec} {fr0 frN : Fr} {σ0 σN : St} {n : Nat} : ∀ (m k : Nat) (pre rs : List Rec) (fr : Fr) (σ : St), k + m = n → pre.length = k → recs = pre ++ rs → fr = ⟨TT ops recs fr0.tmps allX k, fr0.defs⟩ →
    σ.g = GG recs σ0.g allX k → σ.dep = σ0.dep → drawRun T G pol call ops (List.range' k m) fr σ = some (rs, frN, σN) →
    rs.length = m ∧ (∀ i, k ≤ i → i < n → StepAt T G pol call ops recs fr0 σ0.g σ0.dep i) ∧ (∀ i, k ≤ i → i < n → σ.objs.length ≤ (recv recs i).hd ∧ (recv recs i).hd + (recv recs i).m ≤ σN.objs.length) ∧
    (∀ i j, k ≤ i → i < j → j < n → (recv recs i).hd + (recv recs i).m ≤ (recv recs j).hd) ∧ frN = ⟨TT ops recs fr0.tmps allX n, fr0.defs⟩ ∧ σN.g = GG recs σ0.g allX n ∧ σN.dep = σ0.dep ∧ σ.objs.length ≤ σN.objs.length
  | 0, k, pre, rs, fr, σ, hk, hp, hr, hf, hg, hd, h => by
    simp only [List.range'_zero, drawRun, Option.some.injEq, Prod.mk.injEq] at h
    obtain ⟨rfl, rfl, rfl⟩ := h
    have : k = n := by omega
    subst this
    exact ⟨rfl, fun i h1 h2 => by omega, fun i h1 h2 => by omega, fun i j h1 h2 h3 => by omega, hf, hg, hd, Nat.le_refl _⟩
  | m + 1, k, pre, rs, fr, σ, hk, hp, hr, hf, hg, hd, h => by
    simp only [List.range'_succ, drawRun] at h
    split at h <;> try cases h
    rename_i o ho
    have hdst : dstOf ops k = o.dst := by simp [dstOf, ho]
    -- the record of this step, and the rest
    obtain ⟨r, rs', frk, σk, hrec, hrest, hlen, hfrk, hgk, hdk, hst⟩ : ∃ (r : Rec) (rs' : List Rec) (frk : Fr) (σk : St), rs = r :: rs' ∧ drawRun T G pol call ops (List.range' (k + 1) m) frk σk = some (rs', frN, σN) ∧
        σk.objs.length = r.hd + r.m ∧ frk = fr.put o.dst r.v ∧ σk.g = applyUps σ.g r.ups ∧ σk.dep = σ.dep ∧
        (r.hd = σ.objs.length ∧ wantedA ops fr o = some r.ran ∧ (r.ran = true → locStep T G pol (call k) o.op fr σ.g r.hd σ.dep = some (⟨r.v, r.ups, r.rds, r.m⟩, r.ps)) ∧ (r.ran = false → r.v = .undef ∧ r.ups = [] ∧ r.m = 0)) := by
      split at h <;> try cases h
      · rename_i hw
        split at h <;> try cases h
        rename_i e ps he
        split at h <;> try cases h
        rename_i σk happ
        split at h <;> cases h
        rename_i rs' hrest
        obtain ⟨a1, a2, a3⟩ := St.app_spec happ
        exact ⟨_, rs', _, σk, rfl, hrest, a3, rfl, a1, a2, rfl, hw, fun _ => he, fun hh => by cases hh⟩
      · rename_i hw
        split at h <;> cases h
        rename_i rs' hrest
        exact ⟨_, rs', _, σ, rfl, hrest, rfl, rfl, rfl, rfl, rfl, hw, (fun hh => by cases hh), fun _ => ⟨rfl, rfl, rfl⟩⟩
    have hk' : recv recs k = r := by
      simp only [recv, hr, hrec, List.getD_eq_getElem?_getD, ← hp, List.getElem?_append_right (Nat.le_refl _), Nat.sub_self, List.getElem?_cons_zero, Option.getD_some]
    obtain ⟨s1, s2, s3, s4⟩ := hst
    have ih := drawRun_ok (recs := recs) (fr0 := fr0) (σ0 := σ0) (n := n) m (k + 1) (pre ++ [r]) rs' frk σk (by omega) (by simp [hp]) (by simp [hr, hrec])
      (by
        rw [hfrk, putFr, hf]
        simp only [TT, tF, allX, if_true, hk', hdst])
      (by rw [hgk, hg]; simp only [GG, gF, allX, if_true, hk']) (by rw [hdk, hd]) hrest
    obtain ⟨i1, i2, i3, i4, i5, i6, i7, i8⟩ := ih
    refine ⟨by simp [hrec, i1], fun i h1 h2 => ?_, fun i h1 h2 => ?_, fun i j h1 h2 h3 => ?_, i5, i6, i7, by omega⟩
    · by_cases e : i = k
      · subst e
        refine ⟨o, ho, ?_, ?_, ?_⟩
        · rw [hk', ← hf]; exact s2
        · rw [hk', ← hf, ← hg, ← hd]; exact s3
        · rw [hk']; exact s4
      · exact i2 i (by omega) h2
    · by_cases e : i = k
      · subst e; rw [hk']; omega
      · have := i3 i (by omega) h2; omega
    · by_cases e : i = k
      · subst e; rw [hk']; have := (i3 j (by omega) h3).1; omega
      · exact i4 i j (by omega) h2 h3

theorem rdL_putT {w : World} {S : Nat → Nat → Prop} {φ : Nat → Option Nat} {l : List AV} {a : Act} {d : Option Tmp} {v : AV} {u : Value} (h : RdL P w S φ l a.tmps.toList) (hr : Rd P w S φ v u) : RdL P w S φ (putT l d v) (a.put d u).tmps.toList := by
  cases d with
  | none => exact h
  | some t => simpa [putT, Act.put] using h.set hr t

theorem count_set_false (l : List Bool) (i : Nat) (h : l[i]? = some false) : (l.set i true).count false + 1 = l.count false := by
  induction l generalizing i with
  | nil => simp at h
  | cons b l ih =>
    cases i with
    | zero => simp at h; subst h; simp
    | succ i =>
      simp at h
      have := ih i h
      simp only [List.set_cons_succ, List.count_cons]
      omega

/-- WHATEVER ORDER IS DRAWN. -/
theorem evDraw_sound (hT : T.Ok P) (hc : ∀ i, AskOk2 P G pol (call i)) {ops : Array Oper} {fr fr' : Fr} {σ σ' : St} {ae : AExit} {ps : List Prop} (h : evDraw T G pol call ops fr σ = some (ae, fr', σ', ps)) (hps : AllP ps) {C C0 : Ctx} {a : Act} (hR : Rel P G C fr σ a) (hE : Ext C0 C) :
    wpAny P .any ops (Post P G C0 ae fr' σ') ops.size (Array.replicate ops.size false) a C.w := by
  unfold evDraw at h
  split at h <;> try cases h
  rename_i recs _ _ hrun
  split at h <;> try cases h
  rename_i hok
  obtain ⟨hok, hns⟩ := hok
  have hrecP : ∀ i, i < ops.size → recs.length = ops.size → AllP (recv recs i).ps := fun i hi hl => recPs_mem hps _ (by simp only [recv, List.getD_eq_getElem?_getD, List.getElem?_eq_getElem (by omega : i < recs.length), Option.getD_some]; exact List.getElem_mem _)
  have hrun' : drawRun T G pol call ops (List.range' 0 ops.size) fr σ = some (recs, fr', σ') := by rw [← List.range_eq_range']; exact hrun
  obtain ⟨r1, r2, r3, r4, r5, r6, r7, r8⟩ := drawRun_ok (recs := recs) (fr0 := fr) (σ0 := σ) (n := ops.size) ops.size 0 [] recs fr σ (by omega) rfl rfl rfl rfl rfl hrun'
  -- the check, laid open
  simp only [drawOk, List.all_eq_true, List.mem_range] at hok
  have hedge : ∀ j oj, ops[j]? = some oj → ∀ e ∈ oj.after, Region.binds .any e = true → e.on < j := fun j oj hj e he hb => by
    have h1 := hok j (Array.getElem?_eq_some_iff.1 hj).1
    simp only [hj, Bool.and_eq_true, Array.all_eq_true_iff_forall_mem, Bool.or_eq_true, Bool.not_eq_true', decide_eq_true_eq] at h1
    rcases h1.1 e he with h2 | h2
    · rw [hb] at h2; cases h2
    · exact h2
  have hpair : ∀ i j oi oj, ops[i]? = some oi → ops[j]? = some oj → i < j → ((masks ops.toList []).getD j 0).testBit i = true ∨ (Oper.apart ops oi oj = true ∧ compat (recv recs i) (recv recs j) = true) := fun i j oi oj hi hj hlt => by
    have h1 := hok j (Array.getElem?_eq_some_iff.1 hj).1
    simp only [hj, Bool.and_eq_true, List.all_eq_true, List.mem_range] at h1
    have h2 := h1.2 i hlt
    simp only [hi, Bool.or_eq_true, Bool.and_eq_true] at h2
    exact h2
  let D (listed : Array Bool) (j : Nat) : Bool := listed.getD j false
  let Closed (listed : Array Bool) : Prop := ∀ j o, ops[j]? = some o → D listed j = true → ∀ e ∈ o.after, Region.binds .any e = true → D listed e.on = true
  have hmask : ∀ listed, Closed listed → ∀ j t, ((masks ops.toList []).getD j 0).testBit t = true → D listed j = true → D listed t = true := fun listed hcl =>
    masks_closed ops.toList [] (fun j t hj => by simp at hj) (fun k o hk hD e he hb => by
      have hk' : ops[k]? = some o := by simpa using hk
      simp only [List.length_nil, Nat.zero_add] at hD ⊢
      exact ⟨hcl k o hk' hD e he hb, hedge k o hk' e he hb⟩)
  let St' (listed : Array Bool) (a : Act) (w : World) : Prop := ∃ C' : Ctx, C'.w = w ∧ Ext C0 C' ∧ Inv P G C' (GG recs σ.g (D listed) ops.size) σ.dep ∧ RdL P C'.w C'.S C'.φ (TT ops recs fr.tmps (D listed) ops.size) a.tmps.toList ∧ RdD P C' fr.defs a.defers ∧
    (∀ id, σ'.objs.length ≤ id → C'.φ id = none) ∧ (∀ i, i < ops.size → D listed i = false → ∀ k, k < (recv recs i).m → C'.φ ((recv recs i).hd + k) = none)
  have main : ∀ (fuel : Nat) (listed : Array Bool) (a : Act) (w : World), listed.size = ops.size → listed.toList.count false ≤ fuel → Closed listed → St' listed a w →
      wpAny P .any ops (Post P G C0 .normal fr' σ') fuel listed a w := by
    -- what is left when nothing is ready
    have fin : ∀ (listed : Array Bool) (a : Act) (w : World), listed.size = ops.size → (∀ j, j < ops.size → D listed j = true) → St' listed a w → Post P G C0 .normal fr' σ' .normal a w := by
      rintro listed a w hsz hall ⟨C', hw, hE', hI', ht', hd', hn', _⟩
      have hGG : GG recs σ.g (D listed) ops.size = σ'.g := by
        rw [r6]; funext i; exact gF_agree ops.size fun j hj _ => by rw [hall j hj]; rfl
      have hTT : TT ops recs fr.tmps (D listed) ops.size = fr'.tmps := by
        rw [r5]; apply List.ext_getElem?; intro t; exact tF_agree ops.size fun j hj _ => by rw [hall j hj]; rfl
      refine ⟨C', hw, hE', ⟨by rw [← hGG, r7]; exact hI', hn', by rw [← hTT]; exact ht', by rw [r5]; exact hd'⟩, rfl⟩
    have nored : ∀ (listed : Array Bool), listed.size = ops.size → Region.ready .any ops listed = [] → ∀ j, j < ops.size → D listed j = true := by
      intro listed hsz hr j
      induction j using Nat.strongRecOn with
      | _ j ih =>
        intro hj
        cases hD : D listed j with
        | true => rfl
        | false =>
          have : j ∈ Region.ready .any ops listed := by
            rw [mem_ready]
            refine ⟨?_, ops[j], by simp [hj], fun e he hb => ih e.on (hedge j ops[j] (by simp [hj]) e he hb) ?_⟩
            · have hj' : j < listed.size := by omega
              simp only [D, Array.getD_eq_getD_getElem?, Array.getElem?_eq_getElem hj', Option.getD_some] at hD ⊢
              exact hD
            · have := hedge j ops[j] (by simp [hj]) e he hb; omega
          rw [hr] at this; cases this
    intro fuel
    induction fuel with
    | zero =>
      intro listed a w hsz hcnt hcl hst
      have hall : ∀ j, j < ops.size → D listed j = true := by
        intro j hj
        have hj' : j < listed.size := by omega
        cases hv : listed[j] with
        | true => simp [D, hj', hv]
        | false =>
          have : 0 < listed.toList.count false := List.count_pos_iff.2 (by rw [← hv]; simp)
          omega
      refine ⟨?_, fin listed a w hsz hall hst⟩
      apply List.eq_nil_iff_forall_not_mem.2
      intro j hj
      obtain ⟨h1, o, ho, _⟩ := mem_ready.1 hj
      have hj2 := (Array.getElem?_eq_some_iff.1 ho).1
      have := hall j hj2
      have hj' : j < listed.size := by omega
      simp [D, hj'] at this h1
      rw [this] at h1; cases h1
    | succ fuel ih =>
      intro listed a w hsz hcnt hcl hst
      refine ⟨fun hr => fin listed a w hsz (nored listed hsz hr) hst, fun i hi => ?_⟩
      obtain ⟨hi1, oi, hoi, hie⟩ := mem_ready.1 hi
      have hin : i < ops.size := (Array.getElem?_eq_some_iff.1 hoi).1
      have hil : i < listed.size := by omega
      have hvi : listed[i] = false := by simpa [hil] using hi1
      have hDi : D listed i = false := by simp [D, hil, hvi]
      have hD' : ∀ j, D (listed.setIfInBounds i true) j = (D listed j || j == i) := by
        intro j
        by_cases e : j = i
        · subst e; simp [D, hil]
        · have : (j == i) = false := by simp [e]
          rw [this, Bool.or_false]
          simp only [D]
          rw [getD_set_ne false (Ne.symm e)]
      have hcl' : Closed (listed.setIfInBounds i true) := by
        intro j o hj hDj e he hb
        rw [hD'] at hDj ⊢
        by_cases ej : j = i
        · subst ej
          rw [hoi] at hj; cases hj
          have := hie e he hb
          simp only [D]; rw [this]; rfl
        · have : (j == i) = false := by simp [ej]
          rw [this, Bool.or_false] at hDj
          rw [hcl j o hj hDj e he hb]; rfl
      -- operations that differ from the text's order do not meet this one
      have hafter : ∀ j oj, ops[j]? = some oj → i < j → D listed j = true → Oper.apart ops oi oj = true ∧ compat (recv recs i) (recv recs j) = true := fun j oj hj hlt hDj => by
        rcases hpair i j oi oj hoi hj hlt with hb | hb
        · have := hmask listed hcl j i hb hDj
          rw [hDi] at this; cases this
        · exact hb
      have hbefore : ∀ j oj, ops[j]? = some oj → j < i → D listed j = false → Oper.apart ops oj oi = true ∧ compat (recv recs j) (recv recs i) = true := fun j oj hj hlt hDj => by
        rcases hpair j i oj oi hj hoi hlt with hb | hb
        · have := hmask _ hcl' i j hb (by rw [hD']; simp)
          rw [hD', hDj] at this
          simp at this; omega
        · exact hb
      have differ : ∀ j, j < ops.size → D listed j ≠ ltX i j → ∃ oj, ops[j]? = some oj ∧ ((i < j ∧ D listed j = true) ∨ (j < i ∧ D listed j = false)) := by
        intro j hj hne
        refine ⟨ops[j], by simp [hj], ?_⟩
        rcases Nat.lt_trichotomy j i with hlt | rfl | hlt
        · have : ltX i j = true := by simp [ltX, hlt]
          rw [this] at hne
          exact .inr ⟨hlt, by simpa using hne⟩
        · rw [hDi] at hne; simp [ltX] at hne
        · have : ltX i j = false := by simp [ltX]; omega
          rw [this] at hne
          exact .inl ⟨hlt, by simpa using hne⟩
      have hT1 : ∀ t ∈ oi.looksAt ops, (TT ops recs fr.tmps (D listed) ops.size)[t]? = (TT ops recs fr.tmps allX i)[t]? := by
        intro t ht
        rw [← TT_lt ops.size (Nat.le_of_lt hin)]
        refine tF_agree ops.size fun j hj hd => ?_
        refine Classical.byContradiction fun hne => ?_
        obtain ⟨oj, hoj, hc⟩ := differ j hj hne
        have hdj : oj.dst = some t := by simpa [dstOf, hoj] using hd
        rcases hc with ⟨h1, h2⟩ | ⟨h1, h2⟩
        · exact (Oper.apart_spec (hafter j oj hoj h1 h2).1).2.2 t hdj ht
        · exact (Oper.apart_spec (hbefore j oj hoj h1 h2).1).1 t hdj ht
      have hG1 : ∀ id ∈ (recv recs i).rds, GG recs σ.g (D listed) ops.size id = GG recs σ.g allX i id := by
        intro id hid
        rw [← GG_lt ops.size (Nat.le_of_lt hin)]
        refine gF_agree ops.size fun j hj hd => ?_
        refine Classical.byContradiction fun hne => ?_
        obtain ⟨oj, hoj, hc⟩ := differ j hj hne
        rcases hc with ⟨h1, h2⟩ | ⟨h1, h2⟩
        · have := (hafter j oj hoj h1 h2).2
          simp only [compat, Bool.and_eq_true, List.all_eq_true, Bool.not_eq_true', List.contains_eq_mem, decide_eq_false_iff_not] at this
          exact this.2 id hid hd
        · have := (hbefore j oj hoj h1 h2).2
          simp only [compat, Bool.and_eq_true, List.all_eq_true, Bool.not_eq_true', List.contains_eq_mem, decide_eq_false_iff_not] at this
          exact (this.1 id hd).1 hid
      have hTins : TT ops recs fr.tmps (D (listed.setIfInBounds i true)) ops.size = putT (TT ops recs fr.tmps (D listed) ops.size) oi.dst (recv recs i).v := by
        have e1 : D (listed.setIfInBounds i true) = fun j => D listed j || j == i := funext hD'
        rw [e1]
        have := tF_insert (dst := dstOf ops) (v := fun j => (recv recs j).v) (t0 := fr.tmps) hDi ops.size hin (fun j h1 h2 h3 t ht hjt => by
          have hoj : ops[j]? = some ops[j] := by simp [h2]
          have hap := (Oper.apart_spec (hafter j _ hoj h1 h3).1).2.1 t (by simpa [dstOf, hoi] using ht)
          exact hap (by simpa [dstOf, h2] using hjt))
        have e2 : dstOf ops i = oi.dst := by simp [dstOf, hoi]
        rw [e2] at this
        exact this
      have hGins : GG recs σ.g (D (listed.setIfInBounds i true)) ops.size = applyUps (GG recs σ.g (D listed) ops.size) (recv recs i).ups := by
        have e1 : D (listed.setIfInBounds i true) = fun j => D listed j || j == i := funext hD'
        rw [e1]
        exact gF_insert hDi ops.size hin (fun j h1 h2 h3 k hk hk' => by
          have hoj : ops[j]? = some ops[j] := by simp [h2]
          have := (hafter j _ hoj h1 h3).2
          simp only [compat, Bool.and_eq_true, List.all_eq_true, Bool.not_eq_true', List.contains_eq_mem, decide_eq_false_iff_not] at this
          exact (this.1 k hk).2 hk')
      obtain ⟨C', hw, hE', hI', ht', hd', hn', hm'⟩ := hst
      subst hw
      obtain ⟨o, ho, hwant, hloc, hnot⟩ := r2 i (Nat.zero_le _) hin
      rw [hoi] at ho; cases ho
      have hcnt' : (listed.setIfInBounds i true).toList.count false ≤ fuel := by
        have := count_set_false listed.toList i (by simp [hil, hvi])
        rw [Array.toList_setIfInBounds]
        omega
      have next : ∀ (C'' : Ctx) (u : Value), Ext C' C'' → Inv P G C'' (applyUps (GG recs σ.g (D listed) ops.size) (recv recs i).ups) σ.dep → Rd P C''.w C''.S C''.φ (recv recs i).v u →
          (∀ id, C''.φ id = C'.φ id ∨ ((recv recs i).hd ≤ id ∧ id < (recv recs i).hd + (recv recs i).m)) → wpAny P .any ops (Post P G C0 .normal fr' σ') fuel (listed.setIfInBounds i true) (a.put oi.dst u) C''.w := by
        intro C'' u hX hI2 hr hφ
        refine ih _ _ _ (by simpa using hsz) hcnt' hcl' ⟨C'', rfl, hE'.trans hX, by rw [hGins]; exact hI2, by rw [hTins]; exact rdL_putT (ht'.ext hX) hr, ?_, ?_, ?_⟩
        · have : (a.put oi.dst u).defers = a.defers := by cases oi.dst <;> rfl
          rw [this]; exact hd'.ext hX
        · intro id hid
          rcases hφ id with h1 | h1
          · rw [h1]; exact hn' id hid
          · have := (r3 i (Nat.zero_le _) hin).2; omega
        · intro j hj hDj k hk
          rw [hD'] at hDj
          simp only [Bool.or_eq_false_iff] at hDj
          rcases hφ ((recv recs j).hd + k) with h1 | h1
          · rw [h1]; exact hm' j hj hDj.1 k hk
          · have hne : j ≠ i := by simpa using hDj.2
            rcases Nat.lt_or_gt_of_ne hne with hlt | hlt
            · have := r4 j i (Nat.zero_le _) hlt hin; omega
            · have := r4 i j (Nat.zero_le _) hlt hj; omega
      unfold wpOp
      simp only [hoi]
      rw [wanted_rd (fr := ⟨TT ops recs fr.tmps (D listed) ops.size, fr.defs⟩) ht' ((wantedA_congr (fr' := ⟨TT ops recs fr.tmps allX i, fr.defs⟩) hT1).trans hwant)]
      cases hran : (recv recs i).ran with
      | true =>
        rw [if_pos rfl]
        refine .inl ?_
        have h1 := hloc hran
        rw [← locStep_congr (fr := ⟨TT ops recs fr.tmps (D listed) ops.size, fr.defs⟩) hT1] at h1
        have h2 := locStep_local h1 hG1
        exact locStep_sound hT (hc i) h2 (hrecP i hin r1) hI' ht' (fun k hk => hm' i hin hDi k hk) (fun C'' u hX hI2 hr hφ => next C'' u hX hI2 hr hφ)
      | false =>
        rw [if_neg (by simp)]
        obtain ⟨n1, n2, n3⟩ := hnot hran
        exact next C' undef (Ext.refl C') (by rw [n2]; exact hI') (by rw [n1]; exact rd_undef) (fun _ => .inl rfl)
  refine main ops.size (Array.replicate ops.size false) a C.w (by simp) (by simp) ?_ ?_
  · intro j o hj hD
    simp only [D, Array.getD_eq_getD_getElem?, Array.getElem?_replicate] at hD
    split at hD <;> simp at hD
  · have hD0 : ∀ j, D (Array.replicate ops.size false) j = ltX 0 j := by
      intro j
      simp only [D, Array.getD_eq_getD_getElem?, Array.getElem?_replicate, ltX]
      split <;> simp
    have e1 : D (Array.replicate ops.size false) = ltX 0 := funext hD0
    refine ⟨C, rfl, hE, ?_, ?_, hR.defs, fun id hid => hR.fresh id (by omega), fun i hi _ k hk => hR.fresh _ ?_⟩
    · rw [e1, GG_lt ops.size (Nat.zero_le _)]; exact hR.inv
    · rw [e1, TT_lt ops.size (Nat.zero_le _)]; exact hR.tmps
    · have := (r3 i (Nat.zero_le _) hi).1; omega

end Go.Vid

/-
Code by script: the script says which way a condition goes, what a call answers, what a loop comes to; what it says comes back as things to prove.
-/
namespace Go.Vid

variable {P : Program} {G : Nat → Option (List AV)} {T : Tab}

/-- What a program is to the abstract machine. -/
structure Env where
  T : Tab
  G : Nat → Option (List AV)
  fb : FuncId → Option Func
  pol : FuncId → Nat

structure Env.Ok (P : Program) (E : Env) : Prop where
  tab : E.T.Ok P
  fb : ∀ f fn, E.fb f = some fn → P.funcs[f]? = some fn
  mixed : P.follows .mixedOrders = true

def findN {α : Type} : List (Nat × α) → Nat → Option α
  | [], _ => none
  | (k, v) :: r, i => match Nat.beq k i with
    | true => some v
    | false => findN r i

inductive Scr where
  | br (b : Bool)
  | rg (id : Nat) (as : List (Nat × AOut × St)) (bs : List (Nat × Bool)) (es : List (Nat × Eff))
  | loop (keep : List Nat) (ae : AExit) (fr : Fr) (σ : St)

def askOf (P : Program) (G : Nat → Option (List AV)) (pol : FuncId → Nat) (as : List (Nat × AOut × St)) (i : Nat) : Ask := fun f args σ => match findN as i with
  | some (out, σ1) => match pol f with
    | 2 => some (out, σ1, [CallOk P G f args σ out σ1])
    | _ => some (out, σ1, [XferOk P G f args σ out σ1])
  | none => none

theorem askOf_ok (pol : FuncId → Nat) (as : List (Nat × AOut × St)) (i : Nat) : AskOk2 P G pol (askOf P G pol as i) where
  x := by
    intro f args σ out σ' ps h hps
    unfold askOf at h
    split at h <;> try cases h
    split at h <;> cases h
    · exact CallOk.xfer hps.1
    · exact hps.1
  b := by
    intro f hf args σ out σ' ps h hps
    unfold askOf at h
    split at h <;> try cases h
    rw [hf] at h
    simp only [Option.some.injEq, Prod.mk.injEq] at h
    obtain ⟨rfl, rfl, rfl⟩ := h
    exact hps.1

def boolOf : AV → Option Bool
  | .bool b => some b
  | _ => none

/-- One operation, told what it is held to give. -/
def stepE (T : Tab) (G : Nat → Option (List AV)) (bs : List (Nat × Bool)) (es : List (Nat × Eff)) (i : Nat) (o : Op) (fr : Fr) (g : Nat → Option AObj) (h : Nat) : Option (Option (Eff × List Prop)) :=
  match findN es i with
  | some e => some (some (e, [astep T (aeval G fr) g h o = some e]))
  | none => match findN bs i with
    | some b => match astep T (aeval G fr) g h o with
      | some e => match boolOf e.v with
        | some c => some (some (⟨.bool b, e.ups, e.rds, e.m⟩, [c = b]))
        | none => some none
      | none => some none
    | none => none

theorem stepE_ok {bs : List (Nat × Bool)} {es : List (Nat × Eff)} {i : Nat} {o : Op} {fr : Fr} {g : Nat → Option AObj} {h : Nat} {e : Eff} {ps : List Prop} (hs : stepE T G bs es i o fr g h = some (some (e, ps))) (hps : AllP ps) : astep T (aeval G fr) g h o = some e := by
  unfold stepE at hs
  split at hs
  · cases hs; exact hps.1
  · split at hs <;> try cases hs
    split at hs <;> try cases hs
    rename_i e0 he
    split at hs <;> cases hs
    rename_i c hc
    have hcb := hps.1
    subst hcb
    rw [he]
    obtain ⟨v, u, r, m⟩ := e0
    cases v <;> simp [boolOf] at hc
    subst hc
    rfl

theorem runOp_of_astep {pol : FuncId → Nat} {call : Ask} {o : Oper} {fr : Fr} {σ σ' : St} {e : Eff} (h : astep T (aeval G fr) σ.g σ.objs.length o.op = some e) (ha : σ.app e.m e.ups = some σ') : runOp T G pol call o fr σ = some (.normal, fr.put o.dst e.v, σ', []) := by
  obtain ⟨dst, op, type, pos, after, guard⟩ := o
  simp only at h
  cases op <;> (try (simp only [runOp, h, ha]; done))
  case call c =>
    obtain ⟨callee, args, argTypes⟩ := c
    cases callee <;> first | (simp only [runOp, h, ha]; done) | (simp [astep] at h; done)
  case panic => simp [astep] at h
  case defer => simp [astep] at h

theorem locStep_of_astep {pol : FuncId → Nat} {call : Ask} {o : Op} {fr : Fr} {g : Nat → Option AObj} {hd dep : Nat} {e : Eff} (h : astep T (aeval G fr) g hd o = some e) : locStep T G pol call o fr g hd dep = some (e, []) := by
  cases o <;> (try (simp only [locStep, h]; done))
  case call c =>
    obtain ⟨callee, args, argTypes⟩ := c
    cases callee <;> first | (simp only [locStep, h]; done) | (simp [astep] at h; done)
  case panic => simp [astep] at h
  case defer => simp [astep] at h

def runE (T : Tab) (G : Nat → Option (List AV)) (pol : FuncId → Nat) (call : Nat → Ask) (bs : List (Nat × Bool)) (es : List (Nat × Eff)) (ops : Array Oper) : List Nat → Fr → St → Option (AExit × Fr × St × List Prop)
  | [], fr, σ => some (.normal, fr, σ, [])
  | i :: rest, fr, σ => match ops[i]? with
    | none => none
    | some o => match wantedA ops fr o with
      | some true => match stepE T G bs es i o.op fr σ.g σ.objs.length with
        | some (some (e, ps)) => match σ.app e.m e.ups with
          | some σ' => match runE T G pol call bs es ops rest (fr.put o.dst e.v) σ' with
            | some (ae, fr2, σ2, qs) => some (ae, fr2, σ2, ps ++ qs)
            | none => none
          | none => none
        | some none => none
        | none => match runOp T G pol (call i) o fr σ with
          | some (.normal, fr', σ', ps) => match runE T G pol call bs es ops rest fr' σ' with
            | some (ae, fr2, σ2, qs) => some (ae, fr2, σ2, ps ++ qs)
            | none => none
          | r => r
      | some false => runE T G pol call bs es ops rest (fr.put o.dst .undef) σ
      | none => none

theorem runE_ok {pol : FuncId → Nat} {call : Nat → Ask} {bs : List (Nat × Bool)} {es : List (Nat × Eff)} {ops : Array Oper} : ∀ (l : List Nat) {fr fr' : Fr} {σ σ' : St} {ae : AExit} {ps : List Prop}, runE T G pol call bs es ops l fr σ = some (ae, fr', σ', ps) → AllP ps →
    ∃ qs, runIdx T G pol call ops l fr σ = some (ae, fr', σ', qs) ∧ AllP qs
  | [], fr, fr', σ, σ', ae, ps, h, hps => ⟨ps, h, hps⟩
  | i :: rest, fr, fr', σ, σ', ae, ps, h, hps => by
    simp only [runE] at h
    simp only [runIdx]
    cases ho : ops[i]? with
    | none => rw [ho] at h; cases h
    | some o =>
      rw [ho] at h
      simp only at h ⊢
      cases hw : wantedA ops fr o with
      | none => rw [hw] at h; cases h
      | some b =>
        rw [hw] at h
        cases b with
        | false => exact runE_ok rest h hps
        | true =>
          simp only at h ⊢
          split at h <;> try cases h
          · rename_i e ps1 hs
            split at h <;> try cases h
            rename_i σ1 happ
            split at h <;> cases h
            rename_i qs1 hr
            rw [AllP.append] at hps
            obtain ⟨qs, h1, h2⟩ := runE_ok rest hr hps.2
            rw [runOp_of_astep (stepE_ok hs hps.1) happ]
            simp only [h1]
            exact ⟨_, rfl, by simpa using h2⟩
          · cases hop : runOp T G pol (call i) o fr σ with
            | none => simp [hop] at h
            | some r =>
              obtain ⟨ae1, fr1, σ1, ps1⟩ := r
              rw [hop] at h
              by_cases hn : ae1 = .normal
              · subst hn
                simp only at h ⊢
                split at h <;> cases h
                rename_i qs1 hr
                rw [AllP.append] at hps
                obtain ⟨qs, h1, h2⟩ := runE_ok rest hr hps.2
                simp only [h1]
                exact ⟨_, rfl, AllP.append.2 ⟨hps.1, h2⟩⟩
              · have h' : some (ae1, fr1, σ1, ps1) = some (ae, fr', σ', ps) := by cases ae1 <;> first | exact absurd rfl hn | exact h
                cases h'
                refine ⟨ps, ?_, hps⟩
                cases ae <;> first | exact absurd rfl hn | rfl

def drawE (T : Tab) (G : Nat → Option (List AV)) (pol : FuncId → Nat) (call : Nat → Ask) (bs : List (Nat × Bool)) (es : List (Nat × Eff)) (ops : Array Oper) : List Nat → Fr → St → Option (List Rec × Fr × St × List Prop)
  | [], fr, σ => some ([], fr, σ, [])
  | i :: rest, fr, σ => match ops[i]? with
    | none => none
    | some o => match wantedA ops fr o with
      | some true => match (match stepE T G bs es i o.op fr σ.g σ.objs.length with
          | some r => (match r with
            | some (e, ps) => some (e, ([] : List Prop), ps)
            | none => none)
          | none => match locStep T G pol (call i) o.op fr σ.g σ.objs.length σ.dep with
            | some (e, ps) => some (e, ps, [])
            | none => none) with
        | none => none
        | some (e, ps, qs) => match σ.app e.m e.ups with
          | none => none
          | some σ' => match drawE T G pol call bs es ops rest (fr.put o.dst e.v) σ' with
            | some (rs, fr2, σ2, qs2) => some (⟨true, e.v, e.ups, e.rds, e.m, σ.objs.length, ps⟩ :: rs, fr2, σ2, qs ++ qs2)
            | none => none
      | some false => match drawE T G pol call bs es ops rest (fr.put o.dst .undef) σ with
        | some (rs, fr2, σ2, qs2) => some (⟨false, .undef, [], [], 0, σ.objs.length, []⟩ :: rs, fr2, σ2, qs2)
        | none => none
      | none => none

theorem drawE_ok {pol : FuncId → Nat} {call : Nat → Ask} {bs : List (Nat × Bool)} {es : List (Nat × Eff)} {ops : Array Oper} : ∀ (l : List Nat) {fr fr' : Fr} {σ σ' : St} {rs : List Rec} {ps : List Prop}, drawE T G pol call bs es ops l fr σ = some (rs, fr', σ', ps) → AllP ps →
    drawRun T G pol call ops l fr σ = some (rs, fr', σ')
  | [], fr, fr', σ, σ', rs, ps, h, hps => by
    simp only [drawE, Option.some.injEq, Prod.mk.injEq] at h
    obtain ⟨rfl, rfl, rfl, rfl⟩ := h
    rfl
  | i :: rest, fr, fr', σ, σ', rs, ps, h, hps => by
    simp only [drawE] at h
    simp only [drawRun]
    cases ho : ops[i]? with
    | none => rw [ho] at h; cases h
    | some o =>
      rw [ho] at h
      simp only at h ⊢
      cases hw : wantedA ops fr o with
      | none => rw [hw] at h; cases h
      | some b =>
        rw [hw] at h
        cases b with
        | false =>
          simp only at h ⊢
          split at h <;> cases h
          rename_i hr
          rw [drawE_ok rest hr hps]
        | true =>
          simp only at h ⊢
          split at h <;> try cases h
          rename_i e ps1 qs1 hs
          split at h <;> try cases h
          rename_i σ1 happ
          split at h <;> cases h
          rename_i qs2 hr
          rw [AllP.append] at hps
          have hloc : locStep T G pol (call i) o.op fr σ.g σ.objs.length σ.dep = some (e, ps1) := by
            split at hs
            · rename_i r hst
              split at hs <;> cases hs
              exact locStep_of_astep (stepE_ok hst hps.1)
            · split at hs <;> cases hs
              assumption
          rw [hloc]
          simp only [happ, drawE_ok rest hr hps.2]

def evDrawE (T : Tab) (G : Nat → Option (List AV)) (pol : FuncId → Nat) (call : Nat → Ask) (bs : List (Nat × Bool)) (es : List (Nat × Eff)) (ops : Array Oper) (fr : Fr) (σ : St) : Option (AExit × Fr × St × List Prop) :=
  match drawE T G pol call bs es ops (List.range ops.size) fr σ with
  | none => none
  | some (recs, fr', σ', qs) => if drawOk ops recs = true ∧ Region.noSelect ops = true then some (.normal, fr', σ', recPs recs ++ qs) else none

theorem evDrawE_ok {pol : FuncId → Nat} {call : Nat → Ask} {bs : List (Nat × Bool)} {es : List (Nat × Eff)} {ops : Array Oper} {fr fr' : Fr} {σ σ' : St} {ae : AExit} {ps : List Prop} (h : evDrawE T G pol call bs es ops fr σ = some (ae, fr', σ', ps)) (hps : AllP ps) :
    ∃ qs, evDraw T G pol call ops fr σ = some (ae, fr', σ', qs) ∧ AllP qs := by
  unfold evDrawE at h
  split at h <;> try cases h
  rename_i recs _ _ qs hr
  split at h <;> cases h
  rename_i hok
  rw [AllP.append] at hps
  refine ⟨_, ?_, hps.1⟩
  unfold evDraw
  rw [drawE_ok _ hr hps.2]
  simp only [if_pos hok]

def keepTs (keep : List Nat) : Nat → List AV → List AV
  | _, [] => []
  | i, a :: as => (if keep.contains i = true then a else .any) :: keepTs keep (i + 1) as

def Fr.only (fr : Fr) (keep : List Nat) : Fr := ⟨keepTs keep 0 fr.tmps, fr.defs⟩

theorem keepTs_rd {w : World} {S : Nat → Nat → Prop} {φ : Nat → Option Nat} {keep : List Nat} : ∀ (as : List AV) (i : Nat) (vs : List Value), RdL P w S φ as vs → RdL P w S φ (keepTs keep i as) vs
  | [], _, vs, h => h
  | a :: as, i, vs, h => by
    simp only [RdL] at h
    obtain ⟨v, vs, rfl, h1, h2⟩ := h
    simp only [keepTs]
    refine .cons ?_ (keepTs_rd as (i + 1) vs h2)
    split
    · exact h1
    · simp only [Rd]

theorem Rel.only {C : Ctx} {fr : Fr} {σ : St} {a : Act} (h : Rel P G C fr σ a) (keep : List Nat) : Rel P G C (fr.only keep) σ a :=
  ⟨h.inv, h.fresh, keepTs_rd _ _ _ h.tmps, h.defs⟩

/-- CODE, on abstract frames and own objects. -/
def CodeOk (P : Program) (G : Nat → Option (List AV)) (c : Code) (fr : Fr) (σ : St) (ae : AExit) (fr' : Fr) (σ' : St) : Prop :=
  ∀ (C C0 : Ctx) (a : Act), Rel P G C fr σ a → Ext C0 C → c.wp P (Post P G C0 ae fr' σ') a C.w

section
variable (P : Program) (E : Env)

def evRg (as : List (Nat × AOut × St)) (bs : List (Nat × Bool)) (es : List (Nat × Eff)) (ops : Array Oper) (draw : Bool) (fr : Fr) (σ : St) : Option (AExit × Fr × St × List Prop) :=
  match draw with
  | true => evDrawE E.T E.G E.pol (askOf P E.G E.pol as) bs es ops fr σ
  | false => runE E.T E.G E.pol (askOf P E.G E.pol as) bs es ops (List.range ops.size) fr σ

def evp : Code → List Scr → Fr → St → Option (AExit × Fr × St × List Scr × List Prop)
  | .skip, sc, fr, σ => some (.normal, fr, σ, sc, [])
  | .label _, sc, fr, σ => some (.normal, fr, σ, sc, [])
  | .exit id, sc, fr, σ => some (.exit id, fr, σ, sc, [])
  | .goto l, sc, fr, σ => some (.goto l, fr, σ, sc, [])
  | .ret, sc, fr, σ => some (.ret, fr, σ, sc, [])
  | .region rid ops draw, sc, fr, σ => match sc with
    | .rg id as bs es :: sc' => match Nat.beq id rid with
      | true => match evRg P E as bs es ops draw fr σ with
        | some (ae, fr', σ', ps) => some (ae, fr', σ', sc', ps)
        | none => none
      | false => match evRg P E [] [] [] ops draw fr σ with
        | some (ae, fr', σ', ps) => some (ae, fr', σ', .rg id as bs es :: sc', ps)
        | none => none
    | sc => match evRg P E [] [] [] ops draw fr σ with
      | some (ae, fr', σ', ps) => some (ae, fr', σ', sc, ps)
      | none => none
  | .seq x y, sc, fr, σ => match evp x sc fr σ with
    | some (.normal, fr', σ', sc', ps) => match evp y sc' fr' σ' with
      | some (ae, fr2, σ2, sc2, qs) => some (ae, fr2, σ2, sc2, ps ++ qs)
      | none => none
    | r => r
  | .cond c x y, sc, fr, σ => match sc with
    | .br b :: sc' => match aeval E.G fr c with
      | some (.bool v) => match (match b with
          | true => evp x sc' fr σ
          | false => evp y sc' fr σ) with
        | some (ae, fr2, σ2, sc2, qs) => some (ae, fr2, σ2, sc2, (v = b) :: qs)
        | none => none
      | _ => none
    | sc => match aeval E.G fr c with
      | some (.bool true) => evp x sc fr σ
      | some (.bool false) => evp y sc fr σ
      | _ => none
  | .block id c, sc, fr, σ => match evp c sc fr σ with
    | some (.exit id', fr', σ', sc', ps) => if id' = id then some (.normal, fr', σ', sc', ps) else some (.exit id', fr', σ', sc', ps)
    | r => r
  | .loop c, sc, fr, σ => match sc with
    | .loop keep ae fr' σ' :: sc' => some (ae, fr', σ', sc', [CodeOk P E.G (.loop c) (fr.only keep) σ ae fr' σ'])
    | _ => none
  | _, _, _, _ => none
end

variable {E : Env}

theorem evRg_sound (hE : E.Ok P) {as : List (Nat × AOut × St)} {bs : List (Nat × Bool)} {es : List (Nat × Eff)} {id : Nat} {ops : Array Oper} {draw : Bool} {fr fr' : Fr} {σ σ' : St} {ae : AExit} {ps : List Prop} (h : evRg P E as bs es ops draw fr σ = some (ae, fr', σ', ps)) (hps : AllP ps) :
    CodeOk P E.G (.region id ops draw) fr σ ae fr' σ' := by
  intro C C0 a hR hX
  unfold evRg at h
  split at h
  · obtain ⟨qs, h1, h2⟩ := evDrawE_ok h hps
    refine wp_region_any hE.mixed ?_
    have hR' : Rel P E.G C.drew fr σ a := ⟨inv_drew hR.inv, hR.fresh, hR.tmps.ext (ext_drew C), hR.defs.ext (ext_drew C)⟩
    exact evDraw_sound hE.tab (askOf_ok E.pol as) h1 h2 hR' (hX.trans (ext_drew C))
  · obtain ⟨qs, h1, h2⟩ := runE_ok _ h hps
    exact wp_region (runIdx_sound hE.tab (askOf_ok E.pol as) _ h1 h2 hR hX)

theorem code_seq {x y : Code} {fr fr1 fr' : Fr} {σ σ1 σ' : St} {ae : AExit} (h : CodeOk P G x fr σ .normal fr1 σ1) (h2 : CodeOk P G y fr1 σ1 ae fr' σ') : CodeOk P G (.seq x y) fr σ ae fr' σ' := by
  intro C C0 a hR hX
  refine wp_seq (wp_mono (h C C0 a hR hX) fun e a1 w1 hp => ?_)
  obtain ⟨C1, hw, hX1, hR1, he⟩ := hp
  subst hw
  simp only [ERd] at he
  subst he
  exact h2 C1 C0 a1 hR1 hX1

theorem code_seq_exit {x y : Code} {fr fr' : Fr} {σ σ' : St} {ae : AExit} (h : CodeOk P G x fr σ ae fr' σ') (hn : ae ≠ .normal) : CodeOk P G (.seq x y) fr σ ae fr' σ' := by
  intro C C0 a hR hX
  refine wp_seq (wp_mono (h C C0 a hR hX) fun e a1 w1 hp => ?_)
  obtain ⟨C1, hw, hX1, hR1, he⟩ := hp
  subst hw
  have : e ≠ .normal := by cases ae <;> simp only [ERd] at he <;> first | exact absurd rfl hn | (subst he; simp) | (obtain ⟨_, rfl, _⟩ := he; simp)
  cases e <;> first | exact absurd rfl this | exact ⟨C1, rfl, hX1, hR1, he⟩

/-- So many rounds of a loop. -/
def LoopN (P : Program) (G : Nat → Option (List AV)) (n : Nat) (c : Code) (fr : Fr) (σ : St) (ae : AExit) (fr' : Fr) (σ' : St) : Prop :=
  ∀ (C C0 : Ctx) (a : Act), Rel P G C fr σ a → Ext C0 C → Code.rounds P c (Post P G C0 ae fr' σ') n a C.w

theorem LoopN.ok {n : Nat} {c : Code} {fr fr' : Fr} {σ σ' : St} {ae : AExit} (h : LoopN P G n c fr σ ae fr' σ') : CodeOk P G (.loop c) fr σ ae fr' σ' :=
  fun C C0 a hR hX => wp_loop_rounds n (h C C0 a hR hX)

theorem loop_next {n : Nat} {c : Code} {fr fr1 fr' : Fr} {σ σ1 σ' : St} {ae : AExit} (h : CodeOk P G c fr σ .normal fr1 σ1) (h2 : LoopN P G n c fr1 σ1 ae fr' σ') : LoopN P G (n + 1) c fr σ ae fr' σ' := by
  intro C C0 a hR hX
  rw [rounds_succ]
  refine wp_mono (h C C0 a hR hX) fun e a1 w1 hp => ?_
  obtain ⟨C1, hw, hX1, hR1, he⟩ := hp
  subst hw
  simp only [ERd] at he
  subst he
  exact h2 C1 C0 a1 hR1 hX1

theorem loop_end {n : Nat} {c : Code} {fr fr' : Fr} {σ σ' : St} {ae : AExit} (h : CodeOk P G c fr σ ae fr' σ') (hn : ae ≠ .normal) : LoopN P G (n + 1) c fr σ ae fr' σ' := by
  intro C C0 a hR hX
  rw [rounds_succ]
  refine wp_mono (h C C0 a hR hX) fun e a1 w1 hp => ?_
  obtain ⟨C1, hw, hX1, hR1, he⟩ := hp
  subst hw
  have : e ≠ .normal := by cases ae <;> simp only [ERd] at he <;> first | exact absurd rfl hn | (subst he; simp) | (obtain ⟨_, rfl, _⟩ := he; simp)
  cases e <;> first | exact absurd rfl this | exact ⟨C1, rfl, hX1, hR1, he⟩

theorem code_only {c : Code} {fr fr' : Fr} {σ σ' : St} {ae : AExit} (keep : List Nat) (h : CodeOk P G c (fr.only keep) σ ae fr' σ') : CodeOk P G c fr σ ae fr' σ' :=
  fun C C0 a hR hX => h C C0 a (hR.only keep) hX

theorem evp_sound (hE : E.Ok P) : ∀ (c : Code) {sc sc' : List Scr} {fr fr' : Fr} {σ σ' : St} {ae : AExit} {ps : List Prop}, evp P E c sc fr σ = some (ae, fr', σ', sc', ps) → AllP ps → CodeOk P E.G c fr σ ae fr' σ'
  | .skip, sc, sc', fr, fr', σ, σ', ae, ps, h, hps => by
    simp only [evp, Option.some.injEq, Prod.mk.injEq] at h
    obtain ⟨rfl, rfl, rfl, _, _⟩ := h
    exact fun C C0 a hR hX => wp_skip ⟨C, rfl, hX, hR, rfl⟩
  | .label l, sc, sc', fr, fr', σ, σ', ae, ps, h, hps => by
    simp only [evp, Option.some.injEq, Prod.mk.injEq] at h
    obtain ⟨rfl, rfl, rfl, _, _⟩ := h
    exact fun C C0 a hR hX => wp_label ⟨C, rfl, hX, hR, rfl⟩
  | .exit id, sc, sc', fr, fr', σ, σ', ae, ps, h, hps => by
    simp only [evp, Option.some.injEq, Prod.mk.injEq] at h
    obtain ⟨rfl, rfl, rfl, _, _⟩ := h
    exact fun C C0 a hR hX => wp_exit ⟨C, rfl, hX, hR, rfl⟩
  | .goto l, sc, sc', fr, fr', σ, σ', ae, ps, h, hps => by
    simp only [evp, Option.some.injEq, Prod.mk.injEq] at h
    obtain ⟨rfl, rfl, rfl, _, _⟩ := h
    exact fun C C0 a hR hX => wp_goto ⟨C, rfl, hX, hR, rfl⟩
  | .ret, sc, sc', fr, fr', σ, σ', ae, ps, h, hps => by
    simp only [evp, Option.some.injEq, Prod.mk.injEq] at h
    obtain ⟨rfl, rfl, rfl, _, _⟩ := h
    exact fun C C0 a hR hX => wp_ret ⟨C, rfl, hX, hR, rfl⟩
  | .region id ops draw, sc, sc', fr, fr', σ, σ', ae, ps, h, hps => by
    simp only [evp] at h
    split at h
    · split at h
      · split at h <;> cases h
        exact evRg_sound hE ‹_› hps
      · split at h <;> cases h
        exact evRg_sound hE ‹_› hps
    · split at h <;> cases h
      exact evRg_sound hE ‹_› hps
  | .seq x y, sc, sc', fr, fr', σ, σ', ae, ps, h, hps => by
    simp only [evp] at h
    cases hx : evp P E x sc fr σ with
    | none => simp [hx] at h
    | some r =>
      obtain ⟨ae1, fr1, σ1, sc1, ps1⟩ := r
      rw [hx] at h
      by_cases hn : ae1 = .normal
      · subst hn
        simp only at h
        split at h <;> cases h
        rename_i qs hy
        rw [AllP.append] at hps
        exact code_seq (evp_sound hE x hx hps.1) (evp_sound hE y hy hps.2)
      · have h' : some (ae1, fr1, σ1, sc1, ps1) = some (ae, fr', σ', sc', ps) := by cases ae1 <;> first | exact absurd rfl hn | exact h
        cases h'
        exact code_seq_exit (evp_sound hE x hx hps) hn
  | .cond c x y, sc, sc', fr, fr', σ, σ', ae, ps, h, hps => by
    simp only [evp] at h
    split at h
    · rename_i b sc1
      split at h <;> try cases h
      rename_i v hv
      split at h <;> cases h
      rename_i qs hr
      obtain ⟨hvb, hps⟩ := hps
      subst hvb
      intro C C0 a hR hX
      have := aeval_rd hR _ _ hv
      simp only [Rd] at this
      cases v with
      | true => exact wp_cond_true this (evp_sound hE x hr hps C C0 a hR hX)
      | false => exact wp_cond_false this (evp_sound hE y hr hps C C0 a hR hX)
    · split at h <;> try cases h
      all_goals
        rename_i hv
        intro C C0 a hR hX
        have := aeval_rd hR _ _ hv
        simp only [Rd] at this
      · exact wp_cond_true this (evp_sound hE x h hps C C0 a hR hX)
      · exact wp_cond_false this (evp_sound hE y h hps C C0 a hR hX)
  | .block id c, sc, sc', fr, fr', σ, σ', ae, ps, h, hps => by
    simp only [evp] at h
    cases hx : evp P E c sc fr σ with
    | none => simp [hx] at h
    | some r =>
      obtain ⟨ae1, fr1, σ1, sc1, ps1⟩ := r
      rw [hx] at h
      have hps1 : AllP ps1 := by
        cases ae1 <;> simp only at h
        case exit id' => split at h <;> cases h <;> exact hps
        all_goals (cases h; exact hps)
      have hc := evp_sound hE c hx hps1
      intro C C0 a hR hX
      refine wp_block (wp_mono (hc C C0 a hR hX) fun e a1 w1 hp => ?_)
      obtain ⟨C1, hw, hX1, hR1, he⟩ := hp
      subst hw
      cases ae1 <;> simp only [ERd] at he <;> simp only at h
      case exit id' =>
        subst he
        by_cases hid : id' = id
        · simp only [hid, if_true, Option.some.injEq, Prod.mk.injEq] at h
          obtain ⟨rfl, rfl, rfl, _⟩ := h
          simp only [Exit.inBlock, hid, if_true]
          exact ⟨C1, rfl, hX1, hR1, rfl⟩
        · simp only [hid, if_false, Option.some.injEq, Prod.mk.injEq] at h
          obtain ⟨rfl, rfl, rfl, _⟩ := h
          simp only [Exit.inBlock, hid, if_false]
          exact ⟨C1, rfl, hX1, hR1, rfl⟩
      case panic v => obtain ⟨u, rfl, hu⟩ := he; cases h; exact ⟨C1, rfl, hX1, hR1, u, rfl, hu⟩
      all_goals (subst he; cases h; exact ⟨C1, rfl, hX1, hR1, rfl⟩)
  | .loop c, sc, sc', fr, fr', σ, σ', ae, ps, h, hps => by
    simp only [evp] at h
    split at h <;> cases h
    exact code_only _ hps.1
  | .rangeFunc .., _, _, _, _, _, _, _, _, h, _ | .scope _, _, _, _, _, _, _, _, _, h, _ | .refuse _, _, _, _, _, _, _, _, _, h, _ => by simp [evp] at h

section
variable (E : Env)
def resultsA (g : Nat → Option AObj) (fr : Fr) : List ResultVar → Option (List AV)
  | [] => some []
  | .tmp t :: r => match resultsA g fr r with
    | some vs => some (fr.tmps.getD t .undef :: vs)
    | none => none
  | .cell a t :: r => match cellsFrom g (fr.tmps.getD a .undef) with
    | some (cs, _) => match loadT E.T t cs, resultsA g fr r with
      | some v, some vs => some (v :: vs)
      | _, _ => none
    | none => none

def oneOrTup : List AV → AV
  | [v] => v
  | vs => .tup vs

end

/-- Is this 'recover()'? -/
def isRec (o : Oper) : Bool :=
  match o.op with
  | .call c => match c.callee with
    | .builtin .recover => c.args.isEmpty && o.guard.isNone
    | _ => false
  | _ => false


section
variable (P : Program) (E : Env)

/-- A deferred function whose body begins with 'recover': it leaves its caller returning. -/
def evDeferred (d : ADef) (m : Option AV) (sc : List Scr) (σ : St) : Option (St × List Scr × List Prop) :=
  match d.fn with
  | .func k => match E.fb k with
    | some fn => match fn.body with
      | some (.seq (.region _ ops false) rest) =>
        match ops[0]? with
        | some o =>
          if isRec o = true ∧ E.T.fnk k = true ∧ fn.results.toList = [] then
            match runIdx E.T E.G E.pol (askOf P E.G E.pol []) ops ((List.range ops.size).drop 1) ((⟨(d.args ++ d.cap) ++ List.replicate (fn.ntmps - (d.args ++ d.cap).length) .undef, []⟩ : Fr).put o.dst (m.getD .nili)) σ with
            | some (.normal, fr1, σ1, ps) => match evp P E rest sc fr1 σ1 with
              | some (.normal, ⟨_, []⟩, σ2, sc', qs) => some (σ2, sc', ps ++ qs)
              | some (.ret, ⟨_, []⟩, σ2, sc', qs) => some (σ2, sc', ps ++ qs)
              | _ => none
            | _ => none
          else none
        | none => none
      | _ => none
    | none => none
  | _ => none

def evLeaves : List ADef → Option AV → List Scr → St → Option (Option AV × St × List Prop)
  | [], m, _, σ => some (m, σ, [])
  | d :: ds, m, sc, σ => match evDeferred P E d m sc σ with
    | some (σ', sc', ps) => match evLeaves ds none sc' σ' with
      | some (m', σ2, qs) => some (m', σ2, ps ++ qs)
      | none => none
    | none => none

def evOut (fn : Func) (fr : Fr) : Option AV → St → Option (AOut × St)
  | none, σ' => match resultsA E σ'.g ⟨fr.tmps, []⟩ fn.results.toList with
    | some vs => some (.ret (oneOrTup vs), σ')
    | none => none
  | some v, σ' => some (.panic v, σ')

def evEnd (fn : Func) (m : Option AV) (fr : Fr) (sc : List Scr) (σ : St) : Option (AOut × St × List Prop) :=
  match evLeaves P E fr.defs m sc σ with
  | some (m', σ', ps) => match evOut E fn fr m' σ' with
    | some (out, σ2) => some (out, σ2, ps)
    | none => none
  | none => none

/-- A FUNCTION by script. -/
def fnRun (f : FuncId) (sc : List Scr) (args : List AV) (σ : St) : Option (AOut × St × List Prop) :=
  match E.fb f with
  | none => none
  | some fn => match fn.body with
    | none => none
    | some c => match evp P E c sc ⟨args ++ List.replicate (fn.ntmps - args.length) .undef, []⟩ σ with
      | some (.normal, fr, σ', sc', ps) => match evEnd P E fn none fr sc' σ' with
        | some (out, σ2, qs) => some (out, σ2, ps ++ qs)
        | none => none
      | some (.ret, fr, σ', sc', ps) => match evEnd P E fn none fr sc' σ' with
        | some (out, σ2, qs) => some (out, σ2, ps ++ qs)
        | none => none
      | some (.panic v, fr, σ', sc', ps) => match evEnd P E fn (some v) fr sc' σ' with
        | some (out, σ2, qs) => some (out, σ2, ps ++ qs)
        | none => none
      | _ => none
end

theorem results_rd (hE : E.Ok P) {C : Ctx} {fr : Fr} {σ : St} {a : Act} (hR : Rel P E.G C fr σ a) : ∀ (rs : List ResultVar) (vs : List AV), resultsA E σ.g fr rs = some vs →
    ∃ us : List Value, Sem.run P (rs.mapM (fun (r : ResultVar) => (match r with
      | .tmp t => (pure (a.tmps.getD t undef) : Sem Value)
      | .cell x t => do loadVar t (← asAddr (a.tmps.getD x undef)) : Sem Value))) C.w = Result.ok us C.w ∧ RdL P C.w C.S C.φ vs us
  | [], vs, h => by
    simp only [resultsA, Option.some.injEq] at h
    subst h
    exact ⟨[], by simp, .nil⟩
  | .tmp t :: rs, vs, h => by
    simp only [resultsA] at h
    split at h <;> cases h
    rename_i vs' h1
    obtain ⟨us, h2, h3⟩ := results_rd hE hR rs vs' h1
    have := aeval_rd hR (.tmp t) _ rfl
    refine ⟨a.tmps.getD t undef :: us, ?_, .cons this h3⟩
    simp only [List.mapM_cons, Sem.run_bind, Sem.run_pure, Result.andThen_ok, h2]
  | .cell x t :: rs, vs, h => by
    simp only [resultsA] at h
    split at h <;> try cases h
    rename_i cs rd hc
    split at h <;> cases h
    rename_i v vs' hl h1
    obtain ⟨us, h2, h3⟩ := results_rd hE hR rs vs' h1
    have hp := aeval_rd hR (.tmp x) _ rfl
    obtain ⟨b, off, hv, hat⟩ := cellsFrom_rd hR.inv hp hc
    obtain ⟨u, hu, hru⟩ := loadT_rd hE.tab hat hl
    refine ⟨u :: us, ?_, .cons hru h3⟩
    simp only [Act.eval] at hv
    have h4 : (asAddr (a.tmps.getD x undef)).run P C.w = .ok ⟨b, off, none⟩ C.w := by rw [hv]; rfl
    simp only [List.mapM_cons, Sem.run_bind, Sem.run_pure, Result.andThen_ok, h4, hu, h2]

theorem results_run (hE : E.Ok P) {C : Ctx} {fr : Fr} {σ : St} {a : Act} {fn : Func} {vs : List AV} (hR : Rel P E.G C fr σ a) (h : resultsA E σ.g fr fn.results.toList = some vs) :
    ∃ u, (results fn a.tmps).run P C.w = .ok u C.w ∧ Rd P C.w C.S C.φ (oneOrTup vs) u := by
  obtain ⟨us, h1, h2⟩ := results_rd hE hR _ _ h
  have hrun : (results fn a.tmps).run P C.w = .ok (if h : us.toArray.size = 1 then us.toArray[0] else .tuple us.toArray) C.w := by
    unfold results
    rw [Array.mapM_eq_mapM_toList]
    simp only [Sem.run_bind, bind_map_left]
    refine (congrArg (fun r => Result.andThen r _) h1).trans ?_
    rfl
  refine ⟨_, hrun, ?_⟩
  have hl := h2.length
  cases vs with
  | nil =>
    simp only [RdL] at h2
    subst h2
    simp only [oneOrTup, Rd]
    exact ⟨[], rfl, .nil⟩
  | cons v vs =>
    cases vs with
    | nil =>
      simp only [RdL] at h2
      obtain ⟨u, _, rfl, hu, rfl⟩ := h2
      simpa [oneOrTup] using hu
    | cons v2 vs =>
      have hne : ¬ us.toArray.size = 1 := by simp at hl ⊢; omega
      simp only [oneOrTup, hne, dif_neg, not_false_eq_true, Rd]
      exact ⟨us, rfl, h2⟩

/-- The caller's state while its deferred calls run. -/
def ModeRd (P : Program) (C : Ctx) : Option AV → FrameMode → Prop
  | none, u => u = .returning
  | some v, u => ∃ x, u = .panicking [{ v := x, recovered := false }] ∧ Rd P C.w C.S C.φ v x

theorem run_recover {o : Oper} (h : isRec o = true) (ev : Operand → Value) (y : Nat → Option Bool) (w : World) : (execOp ev o).run P w = .ok .recover w ∧ Region.wanted o y = true := by
  obtain ⟨dst, op, t, pos, after, guard⟩ := o
  unfold isRec at h
  split at h <;> try cases h
  rename_i c hop
  split at h <;> try cases h
  rename_i hc
  simp only [Bool.and_eq_true] at h
  obtain ⟨callee, args, ats⟩ := c
  simp only at hop hc h
  subst hop hc
  obtain ⟨h1, h2⟩ := h
  have : args = #[] := by simpa using h1
  subst this
  cases guard with
  | some _ => simp at h2
  | none => exact ⟨rfl, rfl⟩

theorem opsS_of {ops : Array Oper} {Q : Exit → Act → World → Prop} {Q' : Exit → Act → List Frame → World → Prop} {cs : List Frame} (hno : ∀ a w, ¬ Q .outgrown a w) (hQ : ∀ e a w, Q e a w → Q' e a cs w) :
    ∀ (l : List Nat) (a : Act) (w : World), wpOps P ops Q l a w → wpOpsS P ops Q' l a cs w
  | [], a, w, h => hQ _ _ _ h
  | i :: rest, a, w, h => by
    have hlet : ¬ LetsOut Q := fun ⟨a, w, hq⟩ => hno a w hq
    simp only [wpOps] at h
    simp only [wpOpsS]
    cases ho : ops[i]? with
    | none => rw [ho] at h; exact opsS_of hno hQ rest a w h
    | some o =>
      rw [ho] at h
      simp only at h ⊢
      split at h
      · rename_i hw
        rcases h with h | ⟨_, h⟩
        · simp only [hw, if_true]
          unfold Oper.wp at h
          generalize (execOp a.eval o).run P w = r at h ⊢
          unfold Oper.upon at h
          split at h
          · exact opsS_of hno hQ rest _ _ h
          · exact opsS_of hno hQ rest _ _ h
          · exact opsS_of hno hQ rest _ _ h
          · refine Calls.mono h fun e w' he => ?_
            cases e with
            | returned v => exact opsS_of hno hQ rest _ _ he
            | panicked ch => exact hQ _ _ _ he
            | outgrown => exact absurd he hlet
          · exact Rows.mono h fun v w' hv => opsS_of hno hQ rest _ _ hv
          · exact hQ _ _ _ h
          · exact h.elim
        · exact absurd h hlet
      · rename_i hw
        simp only [hw, if_false, Bool.false_eq_true]
        exact opsS_of hno hQ rest _ _ h

theorem post_no_outgrown {C0 : Ctx} {ae : AExit} {fr : Fr} {σ : St} (a : Act) (w : World) : ¬ Post P G C0 ae fr σ .outgrown a w := by
  rintro ⟨C', _, _, _, he⟩
  cases ae <;> simp [ERd] at he

def DPost (P : Program) (G : Nat → Option (List AV)) (C : Ctx) (σ' : St) (e : Ending) (u' : FrameMode) (w' : World) : Prop :=
  (∃ v, e = .returned v) ∧ settle u' = .returning ∧ ∃ C' : Ctx, C'.w = w' ∧ Ext C C' ∧ Inv P G C' σ'.g σ'.dep ∧ Fresh C' σ'.objs.length

theorem deferred_sound (hE : E.Ok P) {d : ADef} {m : Option AV} {σ σ' : St} {sc sc' : List Scr} {ps : List Prop} (h : evDeferred P E d m sc σ = some (σ', sc', ps)) (hps : AllP ps) {C : Ctx} (hI : Inv P E.G C σ.g σ.dep) (hF : Fresh C σ.objs.length)
    {vs ws : List Value} (ha : RdL P C.w C.S C.φ d.args vs) (hw : RdL P C.w C.S C.φ d.cap ws) {u : FrameMode} (hm : ModeRd P C m u) :
    ∃ k, (invoke (.fn d.fn ⟨ws⟩) ⟨vs⟩).run P C.w = .ok (.enter k (⟨vs⟩ ++ ⟨ws⟩)) C.w ∧ CallsD P k (⟨vs⟩ ++ ⟨ws⟩) u C.w (DPost P E.G C σ') := by
  unfold evDeferred at h
  split at h <;> try cases h
  rename_i k hk
  split at h <;> try cases h
  rename_i fn hfn
  split at h <;> try cases h
  rename_i id ops rest hb
  split at h <;> try cases h
  rename_i o hop
  split at h <;> try cases h
  rename_i hfk
  obtain ⟨hrec, hfk, hres⟩ := hfk
  refine ⟨k, ?_, ?_⟩
  · rw [hk]
    exact run_enter hE.tab hfk _ _
  refine callsD_of_wpS (hE.fb k fn hfn) hb fun c0 cs hu => ?_
  split at h <;> try cases h
  rename_i fr1 σ1 ps1 h1
  have hps1 : AllP ps1 := by split at h <;> cases h <;> exact (AllP.append.1 hps).1
  have hav : RdL P C.w C.S C.φ (d.args ++ d.cap) (vs ++ ws) := ha.append hw
  have hl := hav.length
  refine wpS_seq (wpS_region ?_)
  have hne : ops.size ≠ 0 := fun h0 => by rw [Array.getElem?_eq_none (by omega)] at hop; cases hop
  obtain ⟨r, hr⟩ : ∃ r, List.range ops.size = 0 :: r := by
    cases hsz : ops.size with
    | zero => exact absurd hsz hne
    | succ q => exact ⟨_, List.range_succ_eq_map ..⟩
  rw [hr] at h1 ⊢
  simp only [List.drop_succ_cons, List.drop_zero] at h1
  simp only [wpOpsS, hop]
  have hrun := fun y => run_recover (P := P) hrec (Act.eval { tmps := (⟨vs⟩ ++ ⟨ws⟩ : Array Value) ++ Array.replicate (fn.ntmps - ((⟨vs⟩ ++ ⟨ws⟩ : Array Value)).size) undef, defers := [] }) y C.w
  rw [if_pos (hrun _).2, (hrun (fun _ => none)).1]
  have key : ∀ (x : Value) (u' : FrameMode), settle u' = .returning → Rd P C.w C.S C.φ (m.getD .nili) x →
      wpOpsS P ops (Exit.thenS (rest.wpS P (bodyPostS P fn c0 cs (DPost P E.G C σ'))) (bodyPostS P fn c0 cs (DPost P E.G C σ'))) r
        (Act.put { tmps := (⟨vs⟩ ++ ⟨ws⟩ : Array Value) ++ Array.replicate (fn.ntmps - ((⟨vs⟩ ++ ⟨ws⟩ : Array Value)).size) undef, defers := [] } o.dst x) ({ c0 with mode := u' } :: cs) C.w := by
    intro x u' hset hx
    have htm : RdL P C.w C.S C.φ ((d.args ++ d.cap) ++ List.replicate (fn.ntmps - (d.args ++ d.cap).length) .undef) ((⟨vs⟩ ++ ⟨ws⟩ : Array Value) ++ Array.replicate (fn.ntmps - ((⟨vs⟩ ++ ⟨ws⟩ : Array Value)).size) undef).toList := by
      rw [hl]
      simpa using hav.append (.replicate rd_undef (fn.ntmps - (vs ++ ws).length))
    have hR : Rel P E.G C ((⟨(d.args ++ d.cap) ++ List.replicate (fn.ntmps - (d.args ++ d.cap).length) .undef, []⟩ : Fr).put o.dst (m.getD .nili)) σ
        (Act.put { tmps := (⟨vs⟩ ++ ⟨ws⟩ : Array Value) ++ Array.replicate (fn.ntmps - ((⟨vs⟩ ++ ⟨ws⟩ : Array Value)).size) undef, defers := [] } o.dst x) := by
      refine ⟨hI, hF, ?_, ?_⟩
      · exact RdL.put (fr := ⟨_, []⟩) (a := { tmps := _, defers := [] }) htm hx
      · cases o.dst <;> simp [Fr.put, Act.put, RdD]
    refine opsS_of (fun a w => post_no_outgrown a w) ?_ r _ _ (runIdx_sound hE.tab (askOf_ok E.pol []) r h1 hps1 hR (Ext.refl C))
    rintro e a w ⟨C1, rfl, hX1, hR1, he⟩
    simp only [ERd] at he
    subst he
    simp only [Exit.thenS]
    refine wpS_of_wp ?_
    have fin : ∀ (ae : AExit) (ts : List AV) (qs : List Prop), evp P E rest sc fr1 σ1 = some (ae, ⟨ts, []⟩, σ', sc', qs) → AllP qs → (ae = .normal ∨ ae = .ret) →
        rest.wp P (fun e a' w' => bodyPostS P fn c0 cs (DPost P E.G C σ') e a' ({ c0 with mode := u' } :: cs) w') a C1.w := by
      intro ae ts qs hev hqs hae
      refine wp_mono (evp_sound hE rest hev hqs C1 C1 a hR1 (Ext.refl C1)) ?_
      rintro e a2 w2 ⟨C2, rfl, hX2, hR2, he⟩
      have hd : a2.defers = [] := by have := hR2.defs; simpa [RdD] using this
      have hout : ∃ v, (results fn a2.tmps).run P C2.w = .ok v C2.w := by
        have : fn.results = #[] := by rw [← Array.toList_inj]; simpa using hres
        obtain ⟨v, hv, _⟩ := results_run (fn := fn) (vs := []) hE hR2 (by rw [hres]; rfl)
        exact ⟨v, hv⟩
      obtain ⟨v, hv⟩ := hout
      have hdp : DPost P E.G C σ' (.returned v) u' C2.w := ⟨⟨v, rfl⟩, hset, C2, rfl, hX1.trans hX2, hR2.inv, hR2.fresh⟩
      rcases hae with rfl | rfl <;> simp only [ERd] at he <;> subst he <;> exact ⟨hd, u', rfl, v, hv, hdp⟩
    split at h <;> cases h
    · exact fin _ _ _ ‹_› (AllP.append.1 hps).2 (.inl rfl)
    · exact fin _ _ _ ‹_› (AllP.append.1 hps).2 (.inr rfl)
  have hc0 : ∀ u', c0.mode = u' → ({ c0 with mode := u' } : Frame) = c0 := fun u' e => by subst e; rfl
  cases m with
  | none =>
    simp only [ModeRd] at hm
    have hrd : recoverD (c0 :: cs) = none := by simp [recoverD, hu, hm]
    rw [hrd]
    simp only
    rw [← hc0 u hu]
    exact key _ u (by rw [hm]; rfl) (by simp [Rd])
  | some v =>
    obtain ⟨x, hux, hx⟩ := hm
    have hrd : recoverD (c0 :: cs) = some (x, { c0 with mode := .panicking [{ v := x, recovered := true }] } :: cs) := by simp [recoverD, hu, hux]
    rw [hrd]
    simp only
    exact key _ _ rfl hx

theorem leaves_sound (hE : E.Ok P) {fn : Func} {tmps : Array Value} {C0 : Ctx} {fr : Fr} {out : AOut} {σ' : St} : ∀ (ds : List ADef) {m : Option AV} {sc : List Scr} {σ : St} {m' : Option AV} {σ2 : St} {ps : List Prop}, evLeaves P E ds m sc σ = some (m', σ2, ps) → AllP ps →
    evOut E fn fr m' σ2 = some (out, σ') →
    ∀ {C : Ctx} {l : List Deferred} {u : FrameMode}, Ext C0 C → Inv P E.G C σ.g σ.dep → Fresh C σ.objs.length → RdL P C.w C.S C.φ fr.tmps tmps.toList → RdD P C ds l → ModeRd P C m u →
    Leaves P fn tmps (CPost P E.G C0 out σ') l u C.w
  | [], m, sc, σ, m', σ2, ps, h, hps, hout, C, l, u, hX, hI, hF, ht, hd, hm => by
    simp only [evLeaves, Option.some.injEq, Prod.mk.injEq] at h
    obtain ⟨rfl, rfl, _⟩ := h
    simp only [RdD] at hd
    subst hd
    cases m with
    | none =>
      simp only [ModeRd] at hm
      subst hm
      simp only [evOut] at hout
      split at hout <;> cases hout
      rename_i vs hres
      have hR : Rel P E.G C ⟨fr.tmps, []⟩ σ' { tmps, defers := [] } := ⟨hI, hF, ht, by simp [RdD]⟩
      obtain ⟨v, hv, hrv⟩ := results_run hE hR hres
      exact ⟨v, hv, C, rfl, hX, hI, hF, v, rfl, hrv⟩
    | some v =>
      obtain ⟨x, rfl, hx⟩ := hm
      cases hout
      exact ⟨C, rfl, hX, hI, hF, x, rfl, hx⟩
  | d :: ds, m, sc, σ, m', σ2, ps, h, hps, hout, C, l, u, hX, hI, hF, ht, hd, hm => by
    simp only [evLeaves] at h
    split at h <;> try cases h
    rename_i σ1 sc1 ps1 h1
    split at h <;> cases h
    rename_i qs h2
    rw [AllP.append] at hps
    simp only [RdD] at hd
    obtain ⟨vs, ws, r, rfl, ha, hw, hr⟩ := hd
    obtain ⟨k, hinv, hcall⟩ := deferred_sound hE h1 hps.1 hI hF ha hw hm
    refine leaves_cons ?_ hinv (hcall.mono ?_)
    · cases m with
      | none => simp only [ModeRd] at hm; subst hm; simp
      | some v => obtain ⟨x, rfl, _⟩ := hm; simp
    · rintro e u' w' ⟨⟨v, rfl⟩, hset, C', rfl, hX', hI', hF'⟩
      simp only [hset]
      exact leaves_sound hE ds h2 hps.2 hout (hX.trans hX') hI' hF' (ht.ext hX') (hr.ext hX') rfl

theorem fnRun_ok (hE : E.Ok P) {f : FuncId} {sc : List Scr} {args : List AV} {σ σ' : St} {out : AOut} {ps : List Prop} (h : fnRun P E f sc args σ = some (out, σ', ps)) (hps : AllP ps) : CallOk P E.G f args σ out σ' := by
  intro C vs hI hF ha
  unfold fnRun at h
  split at h <;> try cases h
  rename_i fn hf
  split at h <;> try cases h
  rename_i c hb
  refine calls_of_wp_defers (hE.fb f fn hf) hb ?_
  have hl := ha.length
  have hR : Rel P E.G C ⟨args ++ List.replicate (fn.ntmps - args.length) .undef, []⟩ σ { tmps := ⟨vs⟩ ++ Array.replicate (fn.ntmps - (⟨vs⟩ : Array Value).size) undef, defers := [] } :=
    ⟨hI, hF, by rw [hl]; simpa using ha.append (.replicate rd_undef _), by simp [RdD]⟩
  have fin : ∀ (ae : AExit) (m : Option AV) (fr : Fr) (σ1 : St) (sc' : List Scr) (ps1 qs : List Prop), evp P E c sc ⟨args ++ List.replicate (fn.ntmps - args.length) .undef, []⟩ σ = some (ae, fr, σ1, sc', ps1) → AllP ps1 →
      ((ae = .normal ∨ ae = .ret) ∧ m = none ∨ ∃ v, ae = .panic v ∧ m = some v) → evEnd P E fn m fr sc' σ1 = some (out, σ', qs) → AllP qs →
      c.wp P (bodyPostD P fn (CPost P E.G C out σ')) { tmps := ⟨vs⟩ ++ Array.replicate (fn.ntmps - (⟨vs⟩ : Array Value).size) undef, defers := [] } C.w := by
    intro ae m fr σ1 sc' ps1 qs hev hps1 hae hend hqs
    refine wp_mono (evp_sound hE c hev hps1 C C _ hR (Ext.refl C)) fun e a w ⟨C', hw, hX, hR', he⟩ => ?_
    subst hw
    unfold evEnd at hend
    have hlv : ∀ u, ModeRd P C' m u → Leaves P fn a.tmps (CPost P E.G C out σ') a.defers u C'.w := by
      intro u hm
      split at hend <;> try cases hend
      rename_i hlv
      split at hend <;> cases hend
      exact leaves_sound (fr := fr) hE fr.defs hlv hqs ‹_› hX hR'.inv hR'.fresh hR'.tmps hR'.defs hm
    rcases hae with ⟨rfl | rfl, rfl⟩ | ⟨v, rfl, rfl⟩
    · simp only [ERd] at he; subst he; exact hlv _ rfl
    · simp only [ERd] at he; subst he; exact hlv _ rfl
    · simp only [ERd] at he
      obtain ⟨x, rfl, hx⟩ := he
      exact hlv _ ⟨x, rfl, hx⟩
  split at h <;> try cases h
  all_goals
    rename_i hev
    split at h <;> cases h
    rename_i hend
    rw [AllP.append] at hps
  · exact fin _ _ _ _ _ _ _ hev hps.1 (.inl ⟨.inl rfl, rfl⟩) hend hps.2
  · exact fin _ _ _ _ _ _ _ hev hps.1 (.inl ⟨.inr rfl, rfl⟩) hend hps.2
  · exact fin _ _ _ _ _ _ _ hev hps.1 (.inr ⟨_, rfl, rfl⟩) hend hps.2

end Go.Vid
