/-
The abstract machine: values, memory, operations, and that the model does the same.
-/
import Derived.Calls
import Derived.Orders
import Derived.Laws.Sem
import Derived.Laws.World
import Derived.Laws.Entries
import Derived.Laws.Tables
import Derived.Laws.Cells
import Derived.Laws.Wrap64
import Derived.Below
import Derived.Laws.StructEq
import Derived.Laws.Slices
import Derived.Laws.Build
import Derived.Laws.Append
import Derived.Laws.BytesString
set_option linter.all false

/-
The values of an abstract machine that stands over the model's own machine, and how they read as the model's values.
'lit k': memory that nobody writes while tag k is in force. 'ref', 'rsl': memory of the call's own, by number.
-/
namespace Go.Vid

inductive AV where
  | bool (b : Bool)
  | int (k : IntKind) (n : Int)
  | str (s : ByteArray)
  | nilp
  | lit (k : Nat) (cs : List AV)
  | ref (id off : Nat)
  | lsl (nl : Bool) (k : Nat) (cs : List AV) (len : Nat) (cap : Option Nat)
  | rsl (id off len : Nat) (cap : Option Nat)
  | func (fn : Fn) (first cap : List AV)
  | nilf
  | iface (t : TypeId) (v : AV)
  | nili
  | agg (cs : List AV)
  | tup (vs : List AV)
  | any
  deriving Inhabited

def AV.undef : AV := .tup []

/-- A value of one cell. -/
def AV.one : AV → Bool
  | .agg _ | .tup _ | .any => false
  | _ => true

def AV.cells : AV → List AV
  | .agg cs => cs
  | v => [v]

/-- What the reading hangs on: the memory, which blocks are not written under which tag, where the own objects lie. -/
structure Ctx where
  w : World
  S : Nat → Nat → Prop
  φ : Nat → Option Nat

def noId : Nat → Option Nat := fun _ => none

section
variable (P : Program)

mutual
def Rd (w : World) : (S : Nat → Nat → Prop) → (φ : Nat → Option Nat) → AV → Value → Prop
  | _, _, .bool b, v => v = .bool b
  | _, _, .int k n, v => v = .int k n
  | _, _, .str s, v => v = .string s
  | _, _, .nilp, v => v = .pointer none
  | S, _, .lit k cs, v => ∃ b off, v = .pointer (some ⟨b, off, none⟩) ∧ S k b ∧ RdAt w (fun j c => j ≤ k ∧ S j c) noId cs b off
  | _, φ, .ref id off, v => ∃ b, φ id = some b ∧ v = .pointer (some ⟨b, off, none⟩)
  | S, _, .lsl nl k cs len cap, v =>
    if nl then v = .slice none 0 0 ∧ len = 0 ∧ cs = [] ∧ (∀ m, cap = some m → m = 0)
    else (∃ b off c, v = .slice (some ⟨b, off, none⟩) len c ∧ S k b ∧ RdAt w (fun j c => j ≤ k ∧ S j c) noId cs b off ∧ len ≤ c ∧ (∀ m, cap = some m → c = m)) ∨
      (∃ a, v = .slice (some a) 0 0 ∧ len = 0 ∧ cs = [] ∧ (∀ m, cap = some m → m = 0))
  | _, φ, .rsl id off len cap, v => ∃ b c, φ id = some b ∧ v = .slice (some ⟨b, off, none⟩) len c ∧ len ≤ c ∧
      (match cap with
       | some m => c = m
       | none => off = 0 ∧ ∃ e n, w.shape? b = some (e, n) ∧ n = c * P.cellsOf e)
  | S, φ, .func fn fs cs, v => ∃ vs ws, v = .func fn ⟨vs⟩ ⟨ws⟩ ∧ RdL w S φ fs vs ∧ RdL w S φ cs ws
  | _, _, .nilf, v => v = .nilFunc
  | S, φ, .iface t x, v => ∃ u, v = .iface t u ∧ Rd w S φ x u
  | _, _, .nili, v => v = .nilIface
  | S, φ, .agg cs, v => ∃ vs, v = .agg ⟨vs⟩ ∧ RdL w S φ cs vs
  | S, φ, .tup cs, v => ∃ vs, v = .tuple ⟨vs⟩ ∧ RdL w S φ cs vs
  | _, _, .any, _ => True
def RdL (w : World) : (S : Nat → Nat → Prop) → (φ : Nat → Option Nat) → List AV → List Value → Prop
  | _, _, [], l => l = []
  | S, φ, a :: as, l => ∃ v vs, l = v :: vs ∧ Rd w S φ a v ∧ RdL w S φ as vs
def RdAt (w : World) : (S : Nat → Nat → Prop) → (φ : Nat → Option Nat) → List AV → Nat → Nat → Prop
  | _, _, [], _, _ => True
  | S, φ, a :: as, b, off => (a.one = true ∧ ∃ v, w.cell? ⟨b, off, none⟩ = some v ∧ Rd w S φ a v) ∧ RdAt w S φ as b (off + 1)
end

end

theorem oneCell_of_rd {P : Program} {w : World} {S : Nat → Nat → Prop} {φ : Nat → Option Nat} {a : AV} {v : Value} (h : Rd P w S φ a v) (ho : a.one = true) : v.oneCell' = true := by
  cases a <;> simp only [AV.one, Bool.false_eq_true] at ho <;> simp only [Rd] at h
  case bool | int | str | nilp | nilf | nili => subst h; rfl
  case lit => obtain ⟨_, _, rfl, _⟩ := h; rfl
  case ref => obtain ⟨_, _, rfl⟩ := h; rfl
  case lsl nl _ _ _ _ =>
    cases nl
    · simp only [Bool.false_eq_true, if_false] at h; rcases h with ⟨_, _, _, rfl, _⟩ | ⟨_, rfl, _⟩ <;> rfl
    · simp only [if_true] at h; obtain ⟨rfl, _⟩ := h; rfl
  case rsl => obtain ⟨_, _, _, rfl, _⟩ := h; rfl
  case func => obtain ⟨_, _, rfl, _⟩ := h; rfl
  case iface => obtain ⟨_, rfl, _⟩ := h; rfl

section
variable {P : Program} {w w' : World} 

/-- What has to stay for readings to stay. -/
structure Keeps (w w' : World) (S S' : Nat → Nat → Prop) (φ φ' : Nat → Option Nat) : Prop where
  tag : ∀ k b, S k b → S' k b
  cell : ∀ k b off v, S k b → w.cell? ⟨b, off, none⟩ = some v → w'.cell? ⟨b, off, none⟩ = some v
  shp : ∀ id b x, φ id = some b → w.shape? b = some x → w'.shape? b = some x
  phi : ∀ id b, φ id = some b → φ' id = some b

theorem Keeps.inner {S S' : Nat → Nat → Prop} {φ φ' : Nat → Option Nat} (h : Keeps w w' S S' φ φ') (k : Nat) :
    Keeps w w' (fun j c => j ≤ k ∧ S j c) (fun j c => j ≤ k ∧ S' j c) noId noId :=
  ⟨fun j b hj => ⟨hj.1, h.tag j b hj.2⟩, fun j b off v hj => h.cell j b off v hj.2, (fun _ _ _ hn _ => by cases hn), (fun _ _ hn => by cases hn)⟩

mutual
theorem Rd.keep : ∀ {S S' : Nat → Nat → Prop} {φ φ' : Nat → Option Nat} (_ : Keeps w w' S S' φ φ') (a : AV) (v : Value), Rd P w S φ a v → Rd P w' S' φ' a v
  | _, _, _, _, _, .bool _, _, h | _, _, _, _, _, .int _ _, _, h | _, _, _, _, _, .str _, _, h | _, _, _, _, _, .nilp, _, h | _, _, _, _, _, .nilf, _, h | _, _, _, _, _, .nili, _, h => by simp only [Rd] at h ⊢; exact h
  | _, _, _, _, _, .any, _, _ => by simp only [Rd]
  | _, _, _, _, H, .lit k cs, v, h => by
    simp only [Rd] at h ⊢
    obtain ⟨b, off, rfl, hs, hr⟩ := h
    exact ⟨b, off, rfl, H.tag _ _ hs, RdAt.keep (H.inner k) ⟨k, Nat.le_refl _, hs⟩ cs off hr⟩
  | _, _, _, _, H, .ref id off, v, h => by
    simp only [Rd] at h ⊢
    obtain ⟨b, hb, rfl⟩ := h
    exact ⟨b, H.phi _ _ hb, rfl⟩
  | _, _, _, _, H, .lsl nl k cs len cap, v, h => by
    simp only [Rd] at h ⊢
    cases nl
    · simp only [Bool.false_eq_true, if_false] at h ⊢
      rcases h with ⟨b, off, c, rfl, hs, hr, hl, hc⟩ | h
      · exact .inl ⟨b, off, c, rfl, H.tag _ _ hs, RdAt.keep (H.inner k) ⟨k, Nat.le_refl _, hs⟩ cs off hr, hl, hc⟩
      · exact .inr h
    · simpa using h
  | _, _, _, _, H, .rsl id off len cap, v, h => by
    simp only [Rd] at h ⊢
    obtain ⟨b, c, hb, rfl, hl, hc⟩ := h
    refine ⟨b, c, H.phi _ _ hb, rfl, hl, ?_⟩
    cases cap with
    | some m => exact hc
    | none => obtain ⟨h0, e, n, hs, hn⟩ := hc; exact ⟨h0, e, n, H.shp _ _ _ hb hs, hn⟩
  | _, _, _, _, H, .func fn fs cs, v, h => by
    simp only [Rd] at h ⊢
    obtain ⟨vs, ws, rfl, h1, h2⟩ := h
    exact ⟨vs, ws, rfl, RdL.keep H fs vs h1, RdL.keep H cs ws h2⟩
  | _, _, _, _, H, .iface t x, v, h => by
    simp only [Rd] at h ⊢
    obtain ⟨u, rfl, h1⟩ := h
    exact ⟨u, rfl, Rd.keep H x u h1⟩
  | _, _, _, _, H, .agg cs, v, h => by
    simp only [Rd] at h ⊢
    obtain ⟨vs, rfl, h1⟩ := h
    exact ⟨vs, rfl, RdL.keep H cs vs h1⟩
  | _, _, _, _, H, .tup cs, v, h => by
    simp only [Rd] at h ⊢
    obtain ⟨vs, rfl, h1⟩ := h
    exact ⟨vs, rfl, RdL.keep H cs vs h1⟩
theorem RdL.keep : ∀ {S S' : Nat → Nat → Prop} {φ φ' : Nat → Option Nat} (_ : Keeps w w' S S' φ φ') (as : List AV) (vs : List Value), RdL P w S φ as vs → RdL P w' S' φ' as vs
  | _, _, _, _, _, [], _, h => by simp only [RdL] at h ⊢; exact h
  | _, _, _, _, H, a :: as, l, h => by
    simp only [RdL] at h ⊢
    obtain ⟨v, vs, rfl, h1, h2⟩ := h
    exact ⟨v, vs, rfl, Rd.keep H a v h1, RdL.keep H as vs h2⟩
theorem RdAt.keep : ∀ {S S' : Nat → Nat → Prop} {φ φ' : Nat → Option Nat} (_ : Keeps w w' S S' φ φ') {b : Nat} (_ : ∃ k, S k b) (as : List AV) (off : Nat), RdAt P w S φ as b off → RdAt P w' S' φ' as b off
  | _, _, _, _, _, _, _, [], _, _ => by simp only [RdAt]
  | _, _, _, _, H, b, hb, a :: as, off, h => by
    simp only [RdAt] at h ⊢
    obtain ⟨⟨ho, v, hc, hr⟩, h2⟩ := h
    obtain ⟨k, hk⟩ := hb
    exact ⟨⟨ho, v, H.cell k b off v hk hc, Rd.keep H a v hr⟩, RdAt.keep H ⟨k, hk⟩ as (off + 1) h2⟩
end


variable {S : Nat → Nat → Prop} {φ : Nat → Option Nat}

theorem RdL.length : ∀ {as : List AV} {vs : List Value}, RdL P w S φ as vs → as.length = vs.length
  | [], vs, h => by simp only [RdL] at h; simp [h]
  | a :: as, vs, h => by
    simp only [RdL] at h
    obtain ⟨v, vs, rfl, _, h2⟩ := h
    simp [RdL.length h2]

theorem RdL.get : ∀ {as : List AV} {vs : List Value}, RdL P w S φ as vs → ∀ {i : Nat} {a : AV}, as[i]? = some a → ∃ v, vs[i]? = some v ∧ Rd P w S φ a v
  | [], _, _, i, a, hi => by simp at hi
  | a :: as, vs, h, i, x, hi => by
    simp only [RdL] at h
    obtain ⟨v, vs, rfl, h1, h2⟩ := h
    cases i with
    | zero => simp at hi; subst hi; exact ⟨v, by simp, h1⟩
    | succ i => simp at hi; obtain ⟨u, hu, hr⟩ := RdL.get h2 hi; exact ⟨u, by simpa using hu, hr⟩

theorem RdL.mk : ∀ {as : List AV} {vs : List Value}, as.length = vs.length → (∀ (i : Nat) (a : AV) (v : Value), as[i]? = some a → vs[i]? = some v → Rd P w S φ a v) → RdL P w S φ as vs
  | [], vs, hl, _ => by simp only [RdL]; exact List.length_eq_zero_iff.1 (by simpa using hl.symm)
  | a :: as, [], hl, _ => by simp at hl
  | a :: as, v :: vs, hl, h => by
    simp only [RdL]
    exact ⟨v, vs, rfl, h 0 a v (by simp) (by simp), RdL.mk (by simpa using hl) fun i a v ha hv => h (i + 1) a v (by simpa using ha) (by simpa using hv)⟩

theorem RdL.nil : RdL P w S φ [] [] := by simp only [RdL]
theorem RdL.cons {a : AV} {v : Value} {as : List AV} {vs : List Value} (h : Rd P w S φ a v) (h2 : RdL P w S φ as vs) : RdL P w S φ (a :: as) (v :: vs) := by
  simp only [RdL]; exact ⟨v, vs, rfl, h, h2⟩
theorem RdL.one {a : AV} {v : Value} (h : Rd P w S φ a v) : RdL P w S φ [a] [v] := .cons h .nil

theorem RdL.append : ∀ {as : List AV} {vs : List Value} {bs : List AV} {us : List Value}, RdL P w S φ as vs → RdL P w S φ bs us → RdL P w S φ (as ++ bs) (vs ++ us)
  | [], vs, bs, us, h, h2 => by simp only [RdL] at h; subst h; simpa using h2
  | a :: as, vs, bs, us, h, h2 => by
    simp only [RdL] at h
    obtain ⟨v, vs, rfl, h1, h3⟩ := h
    exact .cons h1 (RdL.append h3 h2)

theorem RdL.drop {as : List AV} {vs : List Value} (h : RdL P w S φ as vs) (n : Nat) : RdL P w S φ (as.drop n) (vs.drop n) :=
  .mk (by simp [h.length]) fun i a v ha hv => by
    rw [List.getElem?_drop] at ha hv
    obtain ⟨u, hu, hr⟩ := h.get ha
    rw [hu] at hv; cases hv; exact hr

theorem RdL.take {as : List AV} {vs : List Value} (h : RdL P w S φ as vs) (n : Nat) : RdL P w S φ (as.take n) (vs.take n) :=
  .mk (by simp [h.length]) fun i a v ha hv => by
    rw [List.getElem?_take] at ha hv
    split at ha <;> simp_all
    obtain ⟨u, hu, hr⟩ := h.get ha
    rw [hu] at hv; cases hv; exact hr

theorem RdL.set {as : List AV} {vs : List Value} (h : RdL P w S φ as vs) {a : AV} {v : Value} (hr : Rd P w S φ a v) (n : Nat) : RdL P w S φ (as.set n a) (vs.set n v) :=
  .mk (by simp [h.length]) fun i x u ha hv => by
    rw [List.getElem?_set] at ha hv
    by_cases hn : n = i
    · subst hn
      simp only [if_true] at ha hv
      split at ha <;> split at hv <;> simp_all
    · simp only [hn, if_false] at ha hv
      obtain ⟨y, hy, hr'⟩ := h.get ha
      rw [hy] at hv; cases hv; exact hr'

theorem RdL.replicate {a : AV} {v : Value} (h : Rd P w S φ a v) (n : Nat) : RdL P w S φ (List.replicate n a) (List.replicate n v) :=
  .mk (by simp) fun i x u ha hv => by
    rw [List.getElem?_replicate] at ha hv
    split at ha <;> simp_all

theorem RdAt.get : ∀ {as : List AV} {b off : Nat}, RdAt P w S φ as b off → ∀ {i : Nat} {a : AV}, as[i]? = some a → a.one = true ∧ ∃ v, w.cell? ⟨b, off + i, none⟩ = some v ∧ Rd P w S φ a v
  | [], _, _, _, i, a, hi => by simp at hi
  | a :: as, b, off, h, i, x, hi => by
    simp only [RdAt] at h
    cases i with
    | zero => simp at hi; subst hi; exact h.1
    | succ i =>
      simp at hi
      have := RdAt.get h.2 hi
      rwa [show off + 1 + i = off + (i + 1) by omega] at this

theorem RdAt.mk : ∀ {as : List AV} {b off : Nat}, (∀ (i : Nat) (a : AV), as[i]? = some a → a.one = true ∧ ∃ v, w.cell? ⟨b, off + i, none⟩ = some v ∧ Rd P w S φ a v) → RdAt P w S φ as b off
  | [], _, _, _ => by simp only [RdAt]
  | a :: as, b, off, h => by
    simp only [RdAt]
    refine ⟨by simpa using h 0 a (by simp), RdAt.mk fun i x hx => ?_⟩
    have := h (i + 1) x (by simpa using hx)
    rwa [show off + (i + 1) = off + 1 + i by omega] at this

theorem RdAt.drop {as : List AV} {b off : Nat} (h : RdAt P w S φ as b off) (n : Nat) : RdAt P w S φ (as.drop n) b (off + n) :=
  .mk fun i a ha => by
    rw [List.getElem?_drop] at ha
    have := h.get ha
    rwa [show off + (n + i) = off + n + i by omega] at this

theorem RdAt.take {as : List AV} {b off : Nat} (h : RdAt P w S φ as b off) (n : Nat) : RdAt P w S φ (as.take n) b off :=
  .mk fun i a ha => by
    rw [List.getElem?_take] at ha
    split at ha
    · exact h.get ha
    · cases ha

/-- The cells from a place on, as a list of values. -/
theorem RdAt.list {as : List AV} {b off : Nat} (h : RdAt P w S φ as b off) : ∃ vs : List Value, RdL P w S φ as vs ∧ (∀ a ∈ as, a.one = true) ∧ ∀ (i : Nat) (v : Value), vs[i]? = some v → w.cell? ⟨b, off + i, none⟩ = some v := by
  induction as generalizing off with
  | nil => exact ⟨[], .nil, by simp, by simp⟩
  | cons a as ih =>
    simp only [RdAt] at h
    obtain ⟨⟨ho, v, hc, hr⟩, h2⟩ := h
    obtain ⟨vs, h3, h4, h5⟩ := ih h2
    refine ⟨v :: vs, .cons hr h3, by simpa using ⟨ho, h4⟩, fun i u hu => ?_⟩
    cases i with
    | zero => simp at hu; subst hu; exact hc
    | succ i => simp at hu; have := h5 i u hu; rwa [show off + 1 + i = off + (i + 1) by omega] at this

theorem RdL.cells {a : AV} {v : Value} (h : Rd P w S φ a v) (ht : ∀ vs, a ≠ .tup vs) (hy : a ≠ .any) : RdL P w S φ a.cells v.cells.toList := by
  cases a with
  | agg cs => simp only [Rd] at h; obtain ⟨vs, rfl, hr⟩ := h; simpa [AV.cells, Value.cells] using hr
  | tup vs => exact absurd rfl (ht vs)
  | any => exact absurd rfl hy
  | _ =>
    have hv : v.oneCell' = true := oneCell_of_rd h rfl
    have : v.cells = #[v] := by cases v <;> simp_all [Value.cells, Value.oneCell']
    rw [this]
    exact .one h

theorem RdL.one_all : ∀ {as : List AV} {vs : List Value}, RdL P w S φ as vs → (∀ a ∈ as, a.one = true) → ∀ v ∈ vs, v.oneCell' = true
  | [], vs, h, _ => by simp only [RdL] at h; subst h; simp
  | a :: as, vs, h, ho => by
    simp only [RdL] at h
    obtain ⟨v, vs, rfl, h1, h2⟩ := h
    intro u hu
    rcases List.mem_cons.1 hu with rfl | hu
    · exact oneCell_of_rd h1 (ho a (by simp))
    · exact RdL.one_all h2 (fun a ha => ho a (by simp [ha])) u hu

end
end Go.Vid

/-
The abstract machine's memory, how it lies in the model's memory, and what three changes of the model's memory
(a new block, a turned own block, a draw) do to that.
-/
namespace Go.Vid

inductive AObj where
  | cells (cs : List AV) (elem : TypeId) (grow : Bool)
  deriving Inhabited

section
variable (P : Program)

def Unfrozen (fz : Nat × Nat) (n : Nat) : Prop := fz.1 = fz.2 ∨ n ≤ fz.1
theorem Unfrozen.at {fz : Nat × Nat} {n : Nat} (h : Unfrozen fz n) (i : Nat) (hi : i < n) : (decide (fz.1 ≤ i) && decide (i < fz.2)) = false := by
  rcases h with h | h
  · by_cases h1 : fz.1 ≤ i
    · have : ¬ i < fz.2 := by omega
      simp [this]
    · simp [h1]
  · have : ¬ fz.1 ≤ i := by omega
    simp [this]

def ObjRd (w : World) (S : Nat → Nat → Prop) (φ : Nat → Option Nat) : AObj → Nat → Prop
  | .cells cs e grow, b => ∃ (arr : Array Value) (fz : Nat × Nat), w.heap[b]? = some (.cells arr e fz) ∧ Unfrozen fz arr.size ∧
      cs.length ≤ arr.size ∧ (grow = false → cs.length = arr.size) ∧ RdL P w S φ cs (arr.toList.take cs.length) ∧ (∀ a ∈ cs, a.one = true)

structure Inv (G : Nat → Option (List AV)) (C : Ctx) (g : Nat → Option AObj) (d : Nat) : Prop where
  lt : ∀ k b, C.S k b → b < C.w.heap.size
  dep : ∀ k b, C.S k b → k ≤ d
  obj : ∀ id o, g id = some o → ∃ b, C.φ id = some b ∧ (∀ k, ¬ C.S k b) ∧ ObjRd P C.w C.S C.φ o b
  inj : ∀ i j b oi oj, g i = some oi → g j = some oj → C.φ i = some b → C.φ j = some b → i = j
  glob : ∀ n cs, G n = some cs → C.S 0 n ∧ RdAt P C.w (fun j c => j ≤ 0 ∧ C.S j c) noId cs n 0
end

structure Ext (C C' : Ctx) : Prop where
  os : C'.w.os = C.w.os
  tape : C'.w.tape = C.w.tape
  output : C'.w.output = C.w.output
  size : C.w.heap.size ≤ C'.w.heap.size
  tag : ∀ k b, C.S k b → C'.S k b
  prot : ∀ k b, C.S k b → C'.w.heap[b]? = C.w.heap[b]?
  shp : ∀ b x, C.w.shape? b = some x → C'.w.shape? b = some x
  phi : ∀ id b, C.φ id = some b → C'.φ id = some b
  snew : ∀ k b, C'.S k b → C.S k b ∨ C.w.heap.size ≤ b ∨ ∃ id, C.φ id = some b
  pnew : ∀ id b, C'.φ id = some b → C.φ id = some b ∨ C.w.heap.size ≤ b ∨ ∃ j, C.φ j = some b
  frm : ∀ b, b < C.w.heap.size → (∀ id, C.φ id ≠ some b) → C'.w.heap[b]? = C.w.heap[b]?

theorem Ext.refl (C : Ctx) : Ext C C := ⟨rfl, rfl, rfl, Nat.le_refl _, fun _ _ h => h, fun _ _ _ => rfl, fun _ _ h => h, fun _ _ h => h, fun _ _ h => .inl h, fun _ _ h => .inl h, fun _ _ _ => rfl⟩

theorem Ext.trans {A B C : Ctx} (h : Ext A B) (k : Ext B C) : Ext A C where
  os := k.os.trans h.os
  tape := k.tape.trans h.tape
  output := k.output.trans h.output
  size := Nat.le_trans h.size k.size
  tag := fun j b hb => k.tag j b (h.tag j b hb)
  prot := fun j b hb => (k.prot j b (h.tag j b hb)).trans (h.prot j b hb)
  shp := fun b x hx => k.shp b x (h.shp b x hx)
  phi := fun i b hb => k.phi i b (h.phi i b hb)
  snew := fun j b hb => by
    rcases k.snew j b hb with h1 | h1 | ⟨i, h1⟩
    · exact h.snew j b h1
    · exact .inr (.inl (Nat.le_trans h.size h1))
    · rcases h.pnew i b h1 with h2 | h2 | ⟨m, h2⟩
      · exact .inr (.inr ⟨i, h2⟩)
      · exact .inr (.inl h2)
      · exact .inr (.inr ⟨m, h2⟩)
  pnew := fun i b hb => by
    rcases k.pnew i b hb with h1 | h1 | ⟨j, h1⟩
    · exact h.pnew i b h1
    · exact .inr (.inl (Nat.le_trans h.size h1))
    · rcases h.pnew j b h1 with h2 | h2 | ⟨m, h2⟩
      · exact .inr (.inr ⟨j, h2⟩)
      · exact .inr (.inl h2)
      · exact .inr (.inr ⟨m, h2⟩)
  frm := fun b hb hn => (k.frm b (Nat.lt_of_lt_of_le hb h.size) fun id h1 => by
    rcases h.pnew id b h1 with h2 | h2 | ⟨m, h2⟩
    · exact hn id h2
    · omega
    · exact hn m h2).trans (h.frm b hb hn)

theorem cell?_of_heap {w w' : World} {b off : Nat} (h : w'.heap[b]? = w.heap[b]?) : w'.cell? ⟨b, off, none⟩ = w.cell? ⟨b, off, none⟩ := by
  simp [World.cell?, h]

theorem Ext.keeps {C C' : Ctx} (h : Ext C C') : Keeps C.w C'.w C.S C'.S C.φ C'.φ where
  tag := h.tag
  cell := fun k b off v hs hc => by rw [cell?_of_heap (h.prot k b hs)]; exact hc
  shp := fun _ b x _ hx => h.shp b x hx
  phi := h.phi

variable {P : Program} {G : Nat → Option (List AV)} {C C' : Ctx} {g : Nat → Option AObj} {d : Nat}

theorem Rd.ext {a : AV} {v : Value} (h : Rd P C.w C.S C.φ a v) (e : Ext C C') : Rd P C'.w C'.S C'.φ a v := h.keep e.keeps
theorem RdL.ext {a : List AV} {v : List Value} (h : RdL P C.w C.S C.φ a v) (e : Ext C C') : RdL P C'.w C'.S C'.φ a v := h.keep e.keeps

theorem glob_ext (hI : Inv P G C g d) (e : Ext C C') : ∀ n cs, G n = some cs → C'.S 0 n ∧ RdAt P C'.w (fun j c => j ≤ 0 ∧ C'.S j c) noId cs n 0 := fun n cs h => by
  obtain ⟨h1, h2⟩ := hI.glob n cs h
  exact ⟨e.tag _ _ h1, h2.keep (e.keeps.inner 0) ⟨0, Nat.le_refl _, h1⟩⟩

/-- An object that lies in a block of which nothing has turned. -/
theorem ObjRd.ext {o : AObj} {b : Nat} (h : ObjRd P C.w C.S C.φ o b) (e : Ext C C') (hb : C'.w.heap[b]? = C.w.heap[b]?) : ObjRd P C'.w C'.S C'.φ o b := by
  cases o with
  | cells cs t gr =>
    obtain ⟨arr, fz, h1, h2, h3, h4, h5, h6⟩ := h
    exact ⟨arr, fz, hb.trans h1, h2, h3, h4, h5.ext e, h6⟩

theorem ObjRd.lt {o : AObj} {b : Nat} {w : World} {S : Nat → Nat → Prop} {φ : Nat → Option Nat} (h : ObjRd P w S φ o b) : b < w.heap.size := by
  cases o with
  | cells cs t gr =>
    obtain ⟨arr, fz, h1, _⟩ := h
    exact (Array.getElem?_eq_some_iff.1 h1).1

def upd {α : Type} (f : Nat → Option α) (i : Nat) (x : Option α) : Nat → Option α := fun j => if j = i then x else f j
@[simp] theorem upd_same {α : Type} (f : Nat → Option α) (i : Nat) (x : Option α) : upd f i x i = x := by simp [upd]
theorem upd_other {α : Type} (f : Nat → Option α) {i j : Nat} (x : Option α) (h : j ≠ i) : upd f i x j = f j := by simp [upd, h]

/-- A draw. -/
def Ctx.drew (C : Ctx) : Ctx := { C with w := C.w.drew }
theorem ext_drew (C : Ctx) : Ext C C.drew := ⟨rfl, rfl, rfl, Nat.le_refl _, fun _ _ h => h, fun _ _ _ => rfl, fun _ _ h => h, fun _ _ h => h, fun _ _ h => .inl h, fun _ _ h => .inl h, fun _ _ _ => rfl⟩
theorem inv_drew (h : Inv P G C g d) : Inv P G C.drew g d where
  lt := h.lt
  dep := h.dep
  obj := fun id o ho => let ⟨b, h1, h2, h3⟩ := h.obj id o ho; ⟨b, h1, h2, h3.ext (ext_drew C) rfl⟩
  inj := h.inj
  glob := glob_ext h (ext_drew C)

/-- A new block, of number 'i'. -/
def Ctx.alloc (C : Ctx) (i : Nat) (o : Obj) : Ctx := ⟨C.w.alloc o, C.S, upd C.φ i (some C.w.heap.size)⟩

theorem heap_alloc_lt (w : World) (o : Obj) {k : Nat} (h : k < w.heap.size) : (w.alloc o).heap[k]? = w.heap[k]? := by
  show (w.heap.push o)[k]? = _
  rw [Array.getElem?_push, if_neg (by omega)]
theorem heap_alloc_new (w : World) (o : Obj) : (w.alloc o).heap[w.heap.size]? = some o := by
  show (w.heap.push o)[w.heap.size]? = _
  simp

theorem shape_lt {w : World} {b : Nat} {x : TypeId × Nat} (h : w.shape? b = some x) : b < w.heap.size := by
  unfold World.shape? at h
  cases hb : w.heap[b]? with
  | none => simp [hb] at h
  | some o => exact (Array.getElem?_eq_some_iff.1 hb).1

theorem ext_alloc {i : Nat} (o : Obj) (hI : Inv P G C g d) (hi : C.φ i = none) : Ext C (C.alloc i o) where
  os := rfl
  tape := rfl
  output := rfl
  size := by simp [Ctx.alloc]
  tag := fun _ _ h => h
  prot := fun k b h => heap_alloc_lt _ _ (hI.lt k b h)
  shp := fun b x h => by
    have := heap_alloc_lt C.w o (shape_lt h)
    simp only [Ctx.alloc, World.shape?, this]
    exact h
  phi := fun id b h => by
    by_cases e : id = i
    · subst e; rw [hi] at h; cases h
    · simpa [Ctx.alloc, upd_other _ _ e] using h
  snew := fun _ _ h => .inl h
  pnew := fun id b h => by
    by_cases e : id = i
    · subst e; simp [Ctx.alloc] at h; exact .inr (.inl (by omega))
    · exact .inl (by simpa [Ctx.alloc, upd_other _ _ e] using h)
  frm := fun b hb _ => heap_alloc_lt _ _ hb

theorem inv_alloc {i : Nat} {cs : List AV} {arr : Array Value} {e : TypeId} {gr : Bool} (hI : Inv P G C g d) (hi : C.φ i = none)
    (hl : cs.length ≤ arr.size) (hg : gr = false → cs.length = arr.size) (hr : RdL P C.w C.S C.φ cs (arr.toList.take cs.length)) (ho : ∀ a ∈ cs, a.one = true) :
    Inv P G (C.alloc i (.cells arr e)) (upd g i (some (.cells cs e gr))) d := by
  have hx := ext_alloc (.cells arr e) hI hi
  have gi : g i = none := by
    cases hgi : g i with
    | none => rfl
    | some o => obtain ⟨b, hb, _⟩ := hI.obj i o hgi; rw [hi] at hb; cases hb
  refine ⟨fun k b h => Nat.lt_of_lt_of_le (hI.lt k b h) hx.size, hI.dep, ?_, ?_, glob_ext hI hx⟩
  · intro id o ho'
    by_cases e' : id = i
    · subst e'
      simp at ho'; subst ho'
      refine ⟨C.w.heap.size, by simp [Ctx.alloc], fun k hk => absurd (hI.lt k _ hk) (by omega), arr, (0, 0), heap_alloc_new _ _, ?_, hl, hg, hr.ext hx, ho⟩
      exact .inl rfl
    · rw [upd_other _ _ e'] at ho'
      obtain ⟨b, h1, h2, h3⟩ := hI.obj id o ho'
      exact ⟨b, by simpa [Ctx.alloc, upd_other _ _ e'] using h1, h2, h3.ext hx (heap_alloc_lt _ _ h3.lt)⟩
  · have key : ∀ j b oj, g j = some oj → C.φ j = some b → b < C.w.heap.size := fun j b oj hj hb => by
      obtain ⟨b', h1, _, h3⟩ := hI.obj j oj hj
      rw [hb] at h1; cases h1; exact h3.lt
    intro a c b oa oc ha hc hab hcb
    by_cases e1 : a = i <;> by_cases e2 : c = i
    · rw [e1, e2]
    · subst e1
      rw [upd_other _ _ e2] at hc
      simp [Ctx.alloc] at hab
      simp [Ctx.alloc, upd_other _ _ e2] at hcb
      have := key c b oc hc hcb; omega
    · subst e2
      rw [upd_other _ _ e1] at ha
      simp [Ctx.alloc] at hcb
      simp [Ctx.alloc, upd_other _ _ e1] at hab
      have := key a b oa ha hab; omega
    · rw [upd_other _ _ e1] at ha
      rw [upd_other _ _ e2] at hc
      simp [Ctx.alloc, upd_other _ _ e1] at hab
      simp [Ctx.alloc, upd_other _ _ e2] at hcb
      exact hI.inj a c b oa oc ha hc hab hcb

/-- A block whose cells have turned. -/
def _root_.Go.World.setBlk (w : World) (b : Nat) (o : Obj) : World := { w with heap := w.heap.setIfInBounds b o }
theorem heap_setBlk_same (w : World) {b : Nat} (o : Obj) (h : b < w.heap.size) : (w.setBlk b o).heap[b]? = some o := by simp [World.setBlk, h]
theorem heap_setBlk_other (w : World) {b k : Nat} (o : Obj) (h : k ≠ b) : (w.setBlk b o).heap[k]? = w.heap[k]? := by
  simp only [World.setBlk]; exact Array.getElem?_setIfInBounds_ne (Ne.symm h)
@[simp] theorem size_setBlk (w : World) (b : Nat) (o : Obj) : (w.setBlk b o).heap.size = w.heap.size := by simp [World.setBlk]

/-- The own object 'i' in the block 'b' becomes 'i'' (the same one, or a new number for it): its cells have turned, or there are more of them. -/
def Ctx.turn (C : Ctx) (i b : Nat) (o : Obj) : Ctx := ⟨C.w.setBlk b o, C.S, upd C.φ i (some b)⟩

theorem ext_turn {i i' b : Nat} {o : AObj} {arr arr' : Array Value} {e : TypeId} {fz fz' : Nat × Nat} (hI : Inv P G C g d) (hg : g i = some o) (hb : C.φ i = some b)
    (hh : C.w.heap[b]? = some (.cells arr e fz)) (hs : arr'.size = arr.size) (hi : i' = i ∨ C.φ i' = none) : Ext C (C.turn i' b (.cells arr' e fz')) where
  os := rfl
  tape := rfl
  output := rfl
  size := by simp [Ctx.turn]
  tag := fun _ _ h => h
  prot := fun k c h => by
    obtain ⟨b', h1, h2, _⟩ := hI.obj i o hg
    rw [hb] at h1; cases h1
    exact heap_setBlk_other _ _ (fun e => h2 k (e ▸ h))
  shp := fun c x h => by
    by_cases e0 : c = b
    · subst e0
      have := heap_setBlk_same C.w (.cells arr' e fz') (shape_lt h)
      simp only [Ctx.turn, World.shape?, this, hs]
      simpa [World.shape?, hh] using h
    · simp only [Ctx.turn, World.shape?, heap_setBlk_other _ _ e0]; exact h
  phi := fun id c h => by
    by_cases e : id = i'
    · subst e
      rcases hi with rfl | hi
      · rw [hb] at h; simpa [Ctx.turn] using h
      · rw [hi] at h; cases h
    · simpa [Ctx.turn, upd_other _ _ e] using h
  snew := fun _ _ h => .inl h
  pnew := fun id c h => by
    by_cases e : id = i'
    · subst e; simp [Ctx.turn] at h; subst h; exact .inr (.inr ⟨i, hb⟩)
    · exact .inl (by simpa [Ctx.turn, upd_other _ _ e] using h)
  frm := fun c _ hn => heap_setBlk_other _ _ (fun e => hn i (e ▸ hb))

theorem inv_turn {i i' b : Nat} {o : AObj} {arr arr' : Array Value} {e : TypeId} {fz fz' : Nat × Nat} {cs : List AV} {gr : Bool} (hI : Inv P G C g d) (hg : g i = some o) (hb : C.φ i = some b)
    (hh : C.w.heap[b]? = some (.cells arr e fz)) (hf : Unfrozen fz' arr.size) (hs : arr'.size = arr.size) (hi : i' = i ∨ C.φ i' = none)
    (hl : cs.length ≤ arr.size) (hgr : gr = false → cs.length = arr.size) (hr : RdL P C.w C.S C.φ cs (arr'.toList.take cs.length)) (ho : ∀ a ∈ cs, a.one = true) :
    Inv P G (C.turn i' b (.cells arr' e fz')) (upd (upd g i none) i' (some (.cells cs e gr))) d := by
  have hx := ext_turn (arr' := arr') (fz' := fz') hI hg hb hh hs hi
  have hlt : b < C.w.heap.size := (Array.getElem?_eq_some_iff.1 hh).1
  obtain ⟨b', hb1, hb2, _⟩ := hI.obj i o hg
  rw [hb] at hb1; cases hb1
  have other : ∀ j oj c, j ≠ i → g j = some oj → C.φ j = some c → c ≠ b := fun j oj c hne hj hc e => hne (hI.inj j i b oj o hj hg (e ▸ hc) hb)
  have none' : ∀ j oj, g j = some oj → C.φ j ≠ none := fun j oj hj hn => by obtain ⟨c, h1, _⟩ := hI.obj j oj hj; rw [hn] at h1; cases h1
  have look : ∀ j oj, upd (upd g i none) i' (some (AObj.cells cs e gr)) j = some oj → j ≠ i' → j ≠ i ∧ g j = some oj := fun j oj hj hne => by
    rw [upd_other _ _ hne] at hj
    by_cases e1 : j = i
    · subst e1; simp at hj
    · exact ⟨e1, by rwa [upd_other _ _ e1] at hj⟩
  refine ⟨fun k c h => by simpa [Ctx.turn] using hI.lt k c h, hI.dep, ?_, ?_, glob_ext hI hx⟩
  · intro id oid hid
    by_cases e' : id = i'
    · subst e'
      simp at hid; subst hid
      exact ⟨b, by simp [Ctx.turn], hb2, arr', fz', heap_setBlk_same _ _ hlt, by rw [hs]; exact hf, by omega, fun h => by rw [hgr h, hs], hr.ext hx, ho⟩
    · obtain ⟨e1, hid'⟩ := look id oid hid e'
      obtain ⟨c, h1, h2, h3⟩ := hI.obj id oid hid'
      exact ⟨c, by simpa [Ctx.turn, upd_other _ _ e'] using h1, h2, h3.ext hx (heap_setBlk_other _ _ (other id oid c e1 hid' h1))⟩
  · intro a c x oa oc ha hc hax hcx
    by_cases e1 : a = i' <;> by_cases e2 : c = i'
    · rw [e1, e2]
    · subst e1
      obtain ⟨e3, hc'⟩ := look c oc hc e2
      simp [Ctx.turn] at hax; subst hax
      simp [Ctx.turn, upd_other _ _ e2] at hcx
      exact absurd rfl (other c oc _ e3 hc' hcx)
    · subst e2
      obtain ⟨e3, ha'⟩ := look a oa ha e1
      simp [Ctx.turn] at hcx; subst hcx
      simp [Ctx.turn, upd_other _ _ e1] at hax
      exact absurd rfl (other a oa _ e3 ha' hax)
    · obtain ⟨_, ha'⟩ := look a oa ha e1
      obtain ⟨_, hc'⟩ := look c oc hc e2
      simp [Ctx.turn, upd_other _ _ e1] at hax
      simp [Ctx.turn, upd_other _ _ e2] at hcx
      exact hI.inj a c x oa oc ha' hc' hax hcx

/-- The same memory, told by another table that says no more. -/
theorem Inv.sub {g' : Nat → Option AObj} (hI : Inv P G C g d) (h : ∀ i o, g' i = some o → g i = some o) : Inv P G C g' d where
  lt := hI.lt
  dep := hI.dep
  obj := fun i o ho => hI.obj i o (h i o ho)
  inj := fun i j b oi oj hi hj => hI.inj i j b oi oj (h _ _ hi) (h _ _ hj)
  glob := hI.glob

end Go.Vid

/-
The abstract machine's operations: what each yields on abstract values, which own objects it turns and which it reads. No proofs here but those of constants.
-/
namespace Go.Vid

/-- What the operations ask of the program's tables. -/
structure Tab where
  und : TypeId → Option TypeDesc
  siz : TypeId → Option Nat
  byt : TypeId → Option Nat
  zer : TypeId → Option AV
  eqs : TypeId → Bool
  fnk : FuncId → Bool

mutual
def toAV : Value → Option AV
  | .bool b => some (.bool b)
  | .int k n => some (.int k n)
  | .string s => some (.str s)
  | .pointer none => some .nilp
  | .slice none 0 0 => some (.lsl true 0 [] 0 (some 0))
  | .nilFunc => some .nilf
  | .nilIface => some .nili
  | .agg ⟨cs⟩ => (toAVL cs).map .agg
  | .tuple ⟨cs⟩ => (toAVL cs).map .tup
  | _ => none
def toAVL : List Value → Option (List AV)
  | [] => some []
  | v :: vs => match toAV v, toAVL vs with
    | some a, some as => some (a :: as)
    | _, _ => none
end

structure Tab.Ok (P : Program) (T : Tab) : Prop where
  und : ∀ t d, T.und t = some d → P.underlying t = some d
  siz : ∀ t n, T.siz t = some n → ∃ i, P.info? t = some i ∧ i.size = n
  byt : ∀ t n, T.byt t = some n → ∃ i, P.info? t = some i ∧ i.bytes = n
  zer : ∀ t a, T.zer t = some a → ∃ i z, P.info? t = some i ∧ i.zero = some z ∧ toAV z = some a
  eqs : ∀ t, T.eqs t = true → P.stoodInHeld t = false ∧ P.eqGuardType P.depth t = false
  fnk : ∀ f, T.fnk f = true → ∃ fn, P.funcs[f]? = some fn ∧ fn.body.isSome = true ∧ (fn.name == "runtime.NumGoroutine") = false

structure Eff where
  v : AV
  ups : List (Nat × Option AObj)
  rds : List Nat
  m : Nat
  deriving Inhabited

def Eff.of (v : AV) : Eff := ⟨v, [], [], 0⟩

def applyUps (g : Nat → Option AObj) : List (Nat × Option AObj) → Nat → Option AObj
  | [] => g
  | (i, o) :: r => applyUps (upd g i o) r

def putL (cs : List AV) (off : Nat) (vs : List AV) : List AV := cs.take off ++ vs ++ cs.drop (off + vs.length)

section
variable (T : Tab) (ρ : Operand → Option AV) (g : Nat → Option AObj) (h : Nat)

def aggB (t : TypeId) : Option Bool :=
  match T.und t with
  | some (.struct _) | some (.array _ _) => some true
  | some _ => some false
  | none => none

def elemOfT (t : TypeId) : Option TypeId :=
  match T.und t with
  | some (.slice e) => some e
  | _ => none

/-- The cells from a pointer on; the object that is read. -/
def cellsFrom : AV → Option (List AV × List Nat)
  | .lit _ cs => some (cs, [])
  | .ref id off => match g id with
    | some (.cells cs _ _) => some (cs.drop off, [id])
    | none => none
  | _ => none

def loadT (t : TypeId) (cs : List AV) : Option AV :=
  match aggB T t with
  | some true => match T.siz t with
    | some n => if n ≤ cs.length then some (.agg (cs.take n)) else none
    | none => none
  | some false => cs.head?
  | none => none

def aLoad (t : TypeId) (p : AV) : Option Eff :=
  match cellsFrom g p with
  | some (cs, rd) => (loadT T t cs).map fun v => ⟨v, [], rd, 0⟩
  | none => none

def aStore (t : TypeId) (p x : AV) : Option Eff :=
  match p with
  | .ref id off => match g id with
    | some (.cells cs e gr) =>
      if T.siz t = some x.cells.length ∧ x.cells.all AV.one = true ∧ off + x.cells.length ≤ cs.length then
        some ⟨.undef, [(id, some (.cells (putL cs off x.cells) e gr))], [id], 0⟩
      else none
    | none => none
  | _ => none

def aFieldAddr (s : TypeId) (p : AV) (f : Nat) : Option AV :=
  match T.und s with
  | some (.struct fields) => match fields[f]? with
    | some fd => match T.siz fd.type with
      | some (_ + 1) => match p with
        | .lit k cs => some (.lit k (cs.drop fd.offset))
        | .ref id off => some (.ref id (off + fd.offset))
        | _ => none
      | _ => none
    | none => none
  | _ => none

def aIndexAddr (t : TypeId) (x i : AV) : Option AV :=
  match i with
  | .int _ n =>
    match T.und t, x with
    | some (.array len e), .lit k cs => if 0 ≤ n ∧ n < len then (T.siz e).map fun s => .lit k (cs.drop (n.toNat * s)) else none
    | some (.array len e), .ref id off => if 0 ≤ n ∧ n < len then (T.siz e).map fun s => .ref id (off + n.toNat * s) else none
    | some (.slice e), .lsl nl k cs len _ => if nl = false ∧ 0 ≤ n ∧ n < len then (T.siz e).map fun s => .lit k (cs.drop (n.toNat * s)) else none
    | some (.slice e), .rsl id off len _ => if 0 ≤ n ∧ n < len then (T.siz e).map fun s => .ref id (off + n.toNat * s) else none
    | _, _ => none
  | _ => none

def aPart (t : TypeId) (cs : List AV) (off : Nat) : Option AV :=
  match aggB T t with
  | some true => (T.siz t).map fun n => .agg ((cs.drop off).take n)
  | some false => cs[off]?
  | none => none

def aField (s : TypeId) (x : AV) (f : Nat) : Option AV :=
  match T.und s, x with
  | some (.struct fields), .agg cs => match fields[f]? with
    | some fd => aPart T fd.type cs fd.offset
    | none => none
  | _, _ => none

def aIndex (t : TypeId) (x i : AV) : Option AV :=
  match i with
  | .int _ n =>
    match T.und t, x with
    | some (.array len e), .agg cs => if 0 ≤ n ∧ n < len then (T.siz e).bind fun s => aPart T e cs (n.toNat * s) else none
    | some .string, .str s => if 0 ≤ n then (s[n.toNat]?).map fun b => .int .u8 b.toNat else none
    | _, _ => none
  | _ => none

def bound (x : Option AV) (y : Nat) (dflt : Nat) : Option Nat :=
  match x with
  | none => some dflt
  | some (.int _ n) => if 0 ≤ n ∧ n ≤ y then some n.toNat else none
  | some _ => none

/-- The bounds l, h, and what is known of the capacity behind the cut. 'cap': what is known of it ahead. -/
def bounds3 (len : Nat) (cap : Option Nat) (lo hi mx : Option AV) : Option (Nat × Nat × Option Nat) :=
  match mx, hi with
  | none, none => match bound lo len 0 with
    | some l => some (l, len, cap)
    | none => none
  | none, some hv => match bound (some hv) (cap.getD len) 0 with
    | some hh => match bound lo hh 0 with
      | some l => some (l, hh, cap)
      | none => none
    | none => none
  | some mv, some hv => match bound (some mv) (cap.getD len) 0 with
    | some m => match bound (some hv) m 0 with
      | some hh => match bound lo hh 0 with
        | some l => some (l, hh, some m)
        | none => none
      | none => none
    | none => none
  | some _, none => none

def aSliceRow (sz : Nat) (x : AV) (lo hi mx : Option AV) : Option AV :=
  match x with
  | .lsl nl k cs len cap => match bounds3 len cap lo hi mx with
    | some (l, hh, c) => some (.lsl nl k (if hh = l then [] else cs.drop (l * sz)) (hh - l) (c.map (· - l)))
    | none => none
  | .rsl id off len cap => match bounds3 len cap lo hi mx with
    | some (l, hh, some c) => some (.rsl id (if c = l then off else off + l * sz) (hh - l) (some (c - l)))
    | some (l, hh, none) => if l = 0 then some (.rsl id off hh none) else none
    | none => none
  | _ => none

def aSlice (t : TypeId) (x : AV) (lo hi mx : Option AV) : Option AV :=
  match T.und t with
  | some .string => match x, mx with
    | .str s, none => match bounds3 s.size (some s.size) lo hi none with
      | some (l, hh, _) => some (.str (s.extract l hh))
      | none => none
    | _, _ => none
  | some (.slice e) => match T.siz e with
    | some sz => aSliceRow sz x lo hi mx
    | none => none
  | some (.array n e) => match T.siz e with
    | some sz => match x, bounds3 n (some n) lo hi mx with
      | .lit k cs, some (l, hh, some c) => some (.lsl false k (if hh = l then [] else cs.drop (l * sz)) (hh - l) (some (c - l)))
      | .ref id off, some (l, hh, some c) => some (.rsl id (if c = l then off else off + l * sz) (hh - l) (some (c - l)))
      | _, _ => none
    | none => none
  | _ => none

def aLen (t : TypeId) (x : AV) : Option AV :=
  match T.und t, x with
  | some .string, .str s => some (.int .i64 s.size)
  | some (.array n _), _ => some (.int .i64 n)
  | some (.slice _), .lsl _ _ _ n _ => some (.int .i64 n)
  | some (.slice _), .rsl _ _ n _ => some (.int .i64 n)
  | _, _ => none

def aCap (t : TypeId) (x : AV) : Option AV :=
  match T.und t, x with
  | some (.array n _), _ => some (.int .i64 n)
  | some (.slice _), .lsl _ _ _ _ (some c) => some (.int .i64 c)
  | some (.slice _), .rsl _ _ _ (some c) => some (.int .i64 c)
  | _, _ => none

/-- The first n elements' cells of what is appended or copied, its length, what is read. -/
def srcCells (sz : Nat) (x : AV) : Option (Nat × List AV × List Nat) :=
  match x with
  | .lsl _ _ cs len _ => if len * sz ≤ cs.length then some (len, cs, []) else none
  | .rsl id off len _ => match g id with
    | some (.cells cs _ _) => if off + len * sz ≤ cs.length then some (len, cs.drop off, [id]) else none
    | none => none
  | .str s => if sz = 1 then some (s.size, s.data.toList.map fun b => .int .u8 b.toNat, []) else none
  | _ => none

def maxRoom : Nat := 2 ^ 46

def aAppend (tys : Array TypeId) (args : List AV) : Option Eff :=
  match tys, args with
  | ⟨[t, u]⟩, [s, x] => match T.und t, T.und u with
    | some (.slice e), some du =>
      match du with
      | .int _ => none
      | _ => match T.siz e, T.byt e, T.zer e with
        | some (sz' + 1), some by_, some z =>
          let sz := sz' + 1
          match srcCells g sz x with
          | none => none
          | some (n, xs, rd) =>
            let new := xs.take (n * sz)
            if n = 0 then (match s with
              | .lsl .. | .rsl .. => some ⟨s, [], rd, 0⟩
              | _ => none)
            else match s with
            | .lsl nl _ cs len cap =>
              if (nl = true ∨ cap = some len) ∧ len * sz ≤ cs.length ∧ z.cells.length = sz ∧ z.cells.all AV.one = true ∧ (len + n) * by_ ≤ maxRoom ∧ len + n ≤ maxRoom then
                some ⟨.rsl h 0 (len + n) none, [(h, some (.cells (cs.take (len * sz) ++ new) e true))], rd, 1⟩
              else none
            | .rsl id off len cap => match g id with
              | none => none
              | some (.cells cs e' gr) =>
                match cap with
                | some c =>
                  if len + n ≤ c then
                    if off + (len + n) * sz ≤ cs.length then
                      some ⟨.rsl id off (len + n) (some c), [(id, some (.cells (putL cs (off + len * sz) new) e' gr))], id :: rd, 0⟩
                    else none
                  else
                    if off + len * sz ≤ cs.length ∧ z.cells.length = sz ∧ z.cells.all AV.one = true ∧ (len + n) * by_ ≤ maxRoom ∧ len + n ≤ maxRoom then
                      some ⟨.rsl h 0 (len + n) none, [(h, some (.cells ((cs.drop off).take (len * sz) ++ new) e true))], id :: rd, 1⟩
                    else none
                | none =>
                  if off = 0 ∧ cs.length = len * sz ∧ gr = true ∧ e' = e ∧ z.cells.length = sz ∧ z.cells.all AV.one = true ∧ (len + n) * by_ ≤ maxRoom ∧ len + n ≤ maxRoom then
                    some ⟨.rsl h 0 (len + n) none, [(id, none), (h, some (.cells (cs ++ new) e true))], id :: rd, 1⟩
                  else none
            | _ => none
        | _, _, _ => none
    | _, _ => none
  | _, _ => none

def aCopy (tys : Array TypeId) (args : List AV) : Option Eff :=
  match tys, args with
  | ⟨t :: _⟩, [dst, x] => match T.und t with
    | some (.slice e) => match T.siz e with
      | some sz => match srcCells g sz x with
        | none => none
        | some (n, xs, rd) => match dst with
          | .rsl id off len _ => match g id with
            | some (.cells cs e' gr) =>
              let k := min n len
              if off + k * sz ≤ cs.length then
                some ⟨.int .i64 k, [(id, some (.cells (putL cs off (xs.take (k * sz))) e' gr))], id :: rd, 0⟩
              else none
            | none => none
          | .lsl _ _ _ 0 _ => some ⟨.int .i64 0, [], rd, 0⟩
          | _ => none
      | none => none
    | _ => none
  | _, _ => none

def madeRow (zs : List AV) (n : Nat) : List AV := (List.range n).map fun i => zs.getD (i % zs.length) .undef

def aMakeSlice (t : TypeId) (len cap : AV) : Option Eff :=
  match len, cap with
  | .int _ l, .int _ c => match T.und t with
    | some (.slice e) => match T.siz e, T.byt e, T.zer e with
      | some (sz' + 1), some by_, some z =>
        if 0 ≤ l ∧ l ≤ c ∧ c ≤ (maxRoom : Int) ∧ c.toNat * by_ ≤ maxRoom ∧ z.cells.length = sz' + 1 ∧ z.cells.all AV.one = true then
          some ⟨.rsl h 0 l.toNat (some c.toNat), [(h, some (.cells (madeRow z.cells (c.toNat * (sz' + 1))) e false))], [], 1⟩
        else none
      | _, _, _ => none
    | _ => none
  | _, _ => none

def aNew (e : TypeId) (v : AV) : Option Eff :=
  if v.cells.all AV.one = true then some ⟨.ref h 0, [(h, some (.cells v.cells e false))], [], 1⟩ else none

def AV.notAny : AV → Bool
  | .any => false
  | _ => true

def aFill (place : Nat → Option (Nat × Nat)) (cells : List AV) : List (Nat × AV) → Option (List AV)
  | [] => some cells
  | (i, v) :: rest =>
    match place i with
    | none => none
    | some (off, size) =>
      if v.cells.length = size ∧ off + v.cells.length ≤ cells.length ∧ v.notAny = true then aFill place (putL cells off v.cells) rest else none

def partsM : List (Nat × Operand) → Option (List (Nat × AV))
  | [] => some []
  | (i, x) :: r => match ρ x, partsM r with
    | some a, some as => some ((i, a) :: as)
    | _, _ => none

def placesM : List Field → Option (List (Nat × Nat))
  | [] => some []
  | f :: fs => match T.siz f.type, placesM fs with
    | some n, some r => some ((f.offset, n) :: r)
    | _, _ => none

def aBuild (t : TypeId) (parts : List (Nat × AV)) : Option AV :=
  match T.und t, T.zer t with
  | some (.struct fields), some z => match placesM T fields.toList with
    | some places => (aFill (fun i => places[i]?) z.cells parts).map .agg
    | none => none
  | some (.array _ e), some z => match T.siz e with
    | some s => (aFill (fun i => some (i * s, s)) z.cells parts).map .agg
    | none => none
  | _, _ => none

def aBuildSlice (t : TypeId) (len : Nat) (parts : List (Nat × AV)) : Option Eff :=
  match T.und t with
  | some (.slice e) => match T.siz e, T.zer e with
    | some s, some z =>
      if len * s ≤ 2 ^ 24 ∧ 0 < s ∧ z.cells.length = s then
        match aFill (fun i => some (i * s, s)) (madeRow z.cells (len * s)) parts with
        | some cs => if cs.all AV.one = true then some ⟨.rsl h 0 len (some len), [(h, some (.cells cs e false))], [], 1⟩ else none
        | none => none
      else none
    | _, _ => none
  | _ => none

def eqFs (E : TypeId → AV → AV → Option Bool) (xs ys : List AV) : List Field → Option Bool
  | [] => some true
  | f :: fs =>
    if f.name ≠ "_" then
      match aPart T f.type xs f.offset, aPart T f.type ys f.offset with
      | some a, some b => match E f.type a b with
        | some true => eqFs E xs ys fs
        | some false => some false
        | none => none
      | _, _ => none
    else eqFs E xs ys fs

def aEq : Nat → TypeId → AV → AV → Option Bool
  | 0, _, _, _ => none
  | d + 1, t, x, y => match T.und t, x, y with
    | some .bool, .bool a, .bool b => some (a == b)
    | some (.int _), .int k a, .int k' b => if k = k' then some (a == b) else none
    | some .string, .str a, .str b => some (a == b)
    | some (.slice _), .lsl true _ _ _ _, .lsl nl _ _ _ _ => some nl
    | some (.slice _), .lsl nl _ _ _ _, .lsl true _ _ _ _ => some nl
    | some (.slice _), .rsl _ _ _ _, .lsl true _ _ _ _ => some false
    | some (.slice _), .lsl true _ _ _ _, .rsl _ _ _ _ => some false
    | some (.interface _), .nili, .nili => some true
    | some (.interface _), .nili, .iface _ _ => some false
    | some (.interface _), .iface _ _, .nili => some false
    | some (.struct fs), .agg xs, .agg ys => if T.eqs t then eqFs T (aEq d) xs ys fs.toList else none
    | _, _, _ => none

def aArith (op : BinOp) (k : IntKind) (a b : Int) : Option AV :=
  match op with
  | .add => some (.int k (k.wrap (a + b)))
  | .sub => some (.int k (k.wrap (a - b)))
  | .mul => some (.int k (k.wrap (a * b)))
  | .quo => if b = 0 then none else some (.int k (k.wrap (a.tdiv b)))
  | .rem => if b = 0 then none else some (.int k (a.tmod b))
  | .and => some (.int k (k.wrap (((a % 2 ^ k.bits).toNat &&& (b % 2 ^ k.bits).toNat : Nat) : Int)))
  | .or => some (.int k (k.wrap (((a % 2 ^ k.bits).toNat ||| (b % 2 ^ k.bits).toNat : Nat) : Int)))
  | .xor => some (.int k (k.wrap (((a % 2 ^ k.bits).toNat ^^^ (b % 2 ^ k.bits).toNat : Nat) : Int)))
  | .eql => some (.bool (a == b))
  | .neq => some (.bool (a != b))
  | .lss => some (.bool (a < b))
  | .leq => some (.bool (a ≤ b))
  | .gtr => some (.bool (a > b))
  | .geq => some (.bool (a ≥ b))
  | _ => none

def aShift (op : BinOp) (k : IntKind) (a b : Int) : Option AV :=
  if b < 0 then none else
  match op with
  | .shl => some (.int k (k.wrap (a * 2 ^ (min b.toNat k.bits))))
  | .shr => some (.int k (a.fdiv (2 ^ (min b.toNat k.bits))))
  | _ => none

def aStr (op : BinOp) (x y : ByteArray) : Option AV :=
  match op with
  | .add => if x.size + y.size ≤ maxRoom then some (.str (x ++ y)) else none
  | .eql => some (.bool (x.toList == y.toList))
  | .neq => some (.bool !(x.toList == y.toList))
  | .lss => some (.bool (Op.bytesLess x.toList y.toList))
  | .leq => some (.bool (Op.bytesLess x.toList y.toList || x.toList == y.toList))
  | .gtr => some (.bool !(Op.bytesLess x.toList y.toList || x.toList == y.toList))
  | .geq => some (.bool !(Op.bytesLess x.toList y.toList))
  | _ => none

def aBin (kc : Bool) (op : BinOp) (t : TypeId) (x y : AV) : Option AV :=
  match x, y with
  | .int k a, .int k' b =>
    match op with
    | .shl | .shr => aShift op k a b
    | _ => if k = k' then aArith op k a b else none
  | .str a, .str b => aStr op a b
  | .bool a, .bool b => match op with
    | .eql => (aEq T Op.maxDepth t (.bool a) (.bool b)).map .bool
    | .neq => (aEq T Op.maxDepth t (.bool a) (.bool b)).map fun b => .bool !b
    | _ => none
  | .agg a, .agg b => match op with
    | .eql => if T.eqs t then (aEq T Op.maxDepth t (.agg a) (.agg b)).map .bool else none
    | .neq => if T.eqs t then (aEq T Op.maxDepth t (.agg a) (.agg b)).map fun b => .bool !b else none
    | _ => none
  | .iface u v, .nili => match op with
    | .eql => (aEq T Op.maxDepth t (.iface u v) .nili).map .bool
    | .neq => (aEq T Op.maxDepth t (.iface u v) .nili).map fun b => .bool !b
    | _ => none
  | .nili, .nili => if kc = true then match op with
    | .eql => (aEq T Op.maxDepth t .nili .nili).map .bool
    | .neq => (aEq T Op.maxDepth t .nili .nili).map fun b => .bool !b
    | _ => none
    else none
  | .lsl nl k cs n c, y => match op with
    | .eql => (aEq T Op.maxDepth t (.lsl nl k cs n c) y).map .bool
    | .neq => (aEq T Op.maxDepth t (.lsl nl k cs n c) y).map fun b => .bool !b
    | _ => none
  | .rsl i o n c, y => match op with
    | .eql => (aEq T Op.maxDepth t (.rsl i o n c) y).map .bool
    | .neq => (aEq T Op.maxDepth t (.rsl i o n c) y).map fun b => .bool !b
    | _ => none
  | _, _ => none

def isK : Operand → Bool
  | .const _ => true
  | _ => false

def aAssert (x : AV) (asserted : TypeId) (ok : Bool) : Option AV :=
  match T.und asserted, x with
  | some (.interface _), _ => none
  | some _, .iface t v => if t = asserted then some (if ok = true then .tup [v, .bool true] else v)
    else if ok = true then (T.zer asserted).map fun z => .tup [z, .bool false] else none
  | some _, .nili => if ok = true then (T.zer asserted).map fun z => .tup [z, .bool false] else none
  | _, _ => none

def aUn (op : UnOp) (x : AV) : Option AV :=
  match op, x with
  | .neg, .int k n => some (.int k (k.wrap (0 - n)))
  | .not, .bool b => some (.bool !b)
  | _, _ => none

def bytesOfCells : List AV → Option (List UInt8)
  | [] => some []
  | .int .u8 n :: r => (bytesOfCells r).map (UInt8.ofNat n.toNat :: ·)
  | _ :: _ => none

def aConv (src dst : TypeId) (x : AV) : Option Eff :=
  match T.und src, T.und dst, x with
  | some _, some (.int k), .int _ n => some (.of (.int k (k.wrap n)))
  | some _, some .string, .str s => some (.of (.str s))
  | some (.slice e), some .string, x => match T.und e with
    | some (.int .u8) => match srcCells g 1 x with
      | some (n, cs, rd) => (match x with
        | .lsl .. | .rsl .. => (bytesOfCells (cs.take n)).map fun bs => ⟨.str ⟨bs.toArray⟩, [], rd, 0⟩
        | _ => none)
      | none => none
    | _ => none
  | some (.slice _), some (.slice e), .rsl id off len cap => match T.und e, g id with
    | some (.int .u8), some o => if src = dst then some ⟨.rsl id off len cap, [(id, some o)], [id], 0⟩ else none
    | _, _ => none
  | _, _, _ => none

def aNilCheck (x : AV) : Option AV :=
  match x with
  | .lit .. | .ref .. => some x
  | .func (.func _) _ _ => some x
  | _ => none

def aMin : List AV → Option AV
  | [.int k x, .int _ y] => some (.int k (if y < x then y else x))
  | _ => none
def aMax : List AV → Option AV
  | [.int k x, .int _ y] => some (.int k (if y > x then y else x))
  | _ => none

def argsM : List Operand → Option (List AV)
  | [] => some []
  | x :: r => match ρ x, argsM r with
    | some a, some as => some (a :: as)
    | _, _ => none

def optM (x : Option Operand) : Option (Option AV) :=
  match x with
  | none => some none
  | some o => (ρ o).map some

/-- One operation that calls no Go function. -/
def astep (o : Op) : Option Eff :=
  match o with
  | .move x | .assign x => (ρ x).map .of
  | .pick c a b => match ρ c with
    | some (.bool true) => (ρ a).map .of
    | some (.bool false) => (ρ b).map .of
    | _ => none
  | .alloc e => (T.zer e).bind fun z => aNew h e z
  | .box e x => (ρ x).bind fun v => aNew h e v
  | .build t parts => (partsM ρ parts.toList).bind fun ps => (aBuild T t ps).map .of
  | .buildSlice t n parts => (partsM ρ parts.toList).bind fun ps => aBuildSlice T h t n ps
  | .load t p => (ρ p).bind fun p => aLoad T g t p
  | .store t p x => match ρ p, ρ x with
    | some p, some x => aStore T g t p x
    | _, _ => none
  | .fieldAddr s p f => (ρ p).bind fun p => (aFieldAddr T s p f).map .of
  | .field s x f => (ρ x).bind fun x => (aField T s x f).map .of
  | .indexAddr t x i => match ρ x, ρ i with
    | some x, some i => (aIndexAddr T t x i).map .of
    | _, _ => none
  | .index t x i => match ρ x, ρ i with
    | some x, some i => (aIndex T t x i).map .of
    | _, _ => none
  | .slice t x lo hi mx => match ρ x, optM ρ lo, optM ρ hi, optM ρ mx with
    | some x, some lo, some hi, some mx => (aSlice T t x lo hi mx).map .of
    | _, _, _, _ => none
  | .makeSlice t l c => match ρ l, ρ c with
    | some l, some c => aMakeSlice T h t l c
    | _, _ => none
  | .extract t i => match ρ t with
    | some (.tup vs) => (vs[i]?).map .of
    | _ => none
  | .binOp op t x' y' _ => match ρ x', ρ y' with
    | some x, some y => (aBin T (isK x' || isK y') op t x y).map .of
    | _, _ => none
  | .unOp op _ x => (ρ x).bind fun x => (aUn op x).map .of
  | .convert s d x => (ρ x).bind fun x => aConv T g s d x
  | .makeInterface t x => match T.und t with
    | some (.interface _) => none
    | some _ => (ρ x).map fun v => .of (.iface t v)
    | none => none
  | .makeFunc fn first cap => match argsM ρ first.toList, argsM ρ cap.toList with
    | some fs, some cs => some (.of (.func fn fs cs))
    | _, _ => none
  | .typeAssert x _ asserted ok => (ρ x).bind fun x => (aAssert T x asserted ok).map .of
  | .nilCheck x => (ρ x).bind fun x => (aNilCheck x).map .of
  | .call { callee := .builtin b, args, argTypes } => match argsM ρ args.toList with
    | some as => match b with
      | .len => match argTypes, as with
        | ⟨t :: _⟩, x :: _ => (aLen T t x).map .of
        | _, _ => none
      | .cap => match argTypes, as with
        | ⟨t :: _⟩, x :: _ => (aCap T t x).map .of
        | _, _ => none
      | .append => aAppend T g h argTypes as
      | .copy => aCopy T g argTypes as
      | .min => (aMin as).map .of
      | .max => (aMax as).map .of
      | _ => none
    | none => none
  | _ => none
end

mutual
theorem toAV_rd {P : Program} {w : World} {S : Nat → Nat → Prop} {φ : Nat → Option Nat} : ∀ (v : Value) (a : AV), toAV v = some a → Rd P w S φ a v
  | .bool b, a, h | .int _ _, a, h | .string _, a, h | .pointer none, a, h | .nilFunc, a, h | .nilIface, a, h => by
    simp only [toAV, Option.some.injEq] at h; subst h; simp only [Rd]
  | .slice none 0 0, a, h => by
    simp only [toAV, Option.some.injEq] at h; subst h; simp [Rd]
  | .agg ⟨cs⟩, a, h => by
    simp only [toAV, Option.map_eq_some_iff] at h
    obtain ⟨as, h1, rfl⟩ := h
    simp only [Rd]
    exact ⟨cs, rfl, toAVL_rd cs as h1⟩
  | .tuple ⟨cs⟩, a, h => by
    simp only [toAV, Option.map_eq_some_iff] at h
    obtain ⟨as, h1, rfl⟩ := h
    simp only [Rd]
    exact ⟨cs, rfl, toAVL_rd cs as h1⟩
  | .float _ _, _, h | .complex _ _ _, _, h | .pointer (some _), _, h | .slice (some _) _ _, _, h | .slice none (_ + 1) _, _, h | .slice none 0 (_ + 1), _, h | .map _, _, h | .chan _, _, h | .func _ _ _, _, h | .iface _ _, _, h => by
    simp [toAV] at h
theorem toAVL_rd {P : Program} {w : World} {S : Nat → Nat → Prop} {φ : Nat → Option Nat} : ∀ (vs : List Value) (as : List AV), toAVL vs = some as → RdL P w S φ as vs
  | [], as, h => by simp only [toAVL, Option.some.injEq] at h; subst h; exact .nil
  | v :: vs, as, h => by
    simp only [toAVL] at h
    cases h1 : toAV v with
    | none => simp [h1] at h
    | some a =>
      cases h2 : toAVL vs with
      | none => simp [h1, h2] at h
      | some as' =>
        simp [h1, h2] at h
        subst h
        exact .cons (toAV_rd v a h1) (toAVL_rd vs as' h2)
end

end Go.Vid

/-
Each operation of the abstract machine does what the model's operation does: those that turn no memory.
-/
namespace Go.Vid

variable {P : Program} {G : Nat → Option (List AV)} {T : Tab} {C C' : Ctx} {g : Nat → Option AObj} {d h : Nat}

def SimV (P : Program) (G : Nat → Option (List AV)) (C : Ctx) (g : Nat → Option AObj) (d h : Nat) (s : Sem Value) (e : Eff) : Prop :=
  (∀ k, k < e.m → C.φ (h + k) = none) →
  ∃ v C', s.run P C.w = .ok v C'.w ∧ C'.S = C.S ∧ Ext C C' ∧ Inv P G C' (applyUps g e.ups) d ∧ Rd P C'.w C'.S C'.φ e.v v ∧ (∀ id, C'.φ id = C.φ id ∨ (h ≤ id ∧ id < h + e.m))

def Sim (P : Program) (G : Nat → Option (List AV)) (C : Ctx) (g : Nat → Option AObj) (d h : Nat) (s : Sem Next) (e : Eff) : Prop :=
  (∀ k, k < e.m → C.φ (h + k) = none) →
  ∃ v C', (s.run P C.w = .ok (.value v) C'.w ∨ (s.run P C.w = .ok .skip C'.w ∧ v = undef)) ∧ C'.S = C.S ∧ Ext C C' ∧ Inv P G C' (applyUps g e.ups) d ∧ Rd P C'.w C'.S C'.φ e.v v ∧
    (∀ id, C'.φ id = C.φ id ∨ (h ≤ id ∧ id < h + e.m))

theorem SimV.sim {s : Sem Value} {e : Eff} (hs : SimV P G C g d h s e) : Sim P G C g d h (do pure (.value (← s))) e := fun hf => by
  obtain ⟨v, C', h1, h2⟩ := hs hf
  exact ⟨v, C', .inl (by simp [h1]), h2⟩

/-- What turns nothing. -/
theorem SimV.pure (hI : Inv P G C g d) {s : Sem Value} {a : AV} {rd : List Nat} {v : Value} (hr : s.run P C.w = .ok v C.w) (ha : Rd P C.w C.S C.φ a v) : SimV P G C g d h s ⟨a, [], rd, 0⟩ :=
  fun _ => ⟨v, C, hr, rfl, Ext.refl C, hI, ha, fun _ => .inl rfl⟩

theorem addr_add (b off n : Nat) : (⟨b, off, none⟩ : Addr).add n = ⟨b, off + n, none⟩ := by
  unfold Addr.add
  split
  · rename_i h; subst h; rfl
  · rfl

theorem run_und (hT : T.Ok P) {t : TypeId} {x : TypeDesc} (hx : T.und t = some x) (w : World) : (underlying t).run P w = .ok x w := run_underlying (hT.und t x hx) w
theorem run_siz (hT : T.Ok P) {t : TypeId} {n : Nat} (hx : T.siz t = some n) (w : World) : (sizeOf t).run P w = .ok n w := by
  obtain ⟨i, h1, rfl⟩ := hT.siz t n hx
  simp [sizeOf, typeInfo, h1]
theorem run_agg (hT : T.Ok P) {t : TypeId} {b : Bool} (hx : aggB T t = some b) (w : World) : (isAgg t).run P w = .ok b w := by
  unfold aggB at hx
  unfold isAgg
  cases hu : T.und t with
  | none => simp [hu] at hx
  | some x =>
    rw [hu] at hx
    simp only [Sem.run_bind, run_und hT hu, Result.andThen_ok]
    cases x <;> simp_all
theorem run_zer (hT : T.Ok P) {t : TypeId} {a : AV} (hx : T.zer t = some a) (w : World) : ∃ z, (zeroValue t).run P w = .ok z w ∧ toAV z = some a := by
  obtain ⟨i, z, h1, h2, h3⟩ := hT.zer t a hx
  exact ⟨z, by simp [zeroValue, typeInfo, h1, h2], h3⟩

theorem keeps_out {w : World} (S : Nat → Nat → Prop) (φ : Nat → Option Nat) (k : Nat) : Keeps w w (fun j c => j ≤ k ∧ S j c) S noId φ :=
  ⟨fun _ _ h => h.2, fun _ _ _ _ _ h => h, (fun _ _ _ hn _ => by cases hn), (fun _ _ hn => by cases hn)⟩

theorem RdAt.out {w : World} {S : Nat → Nat → Prop} {φ : Nat → Option Nat} {k b off : Nat} {cs : List AV} (h : RdAt P w (fun j c => j ≤ k ∧ S j c) noId cs b off) : RdAt P w S φ cs b off :=
  .mk fun i a ha => by
    obtain ⟨h1, v, h2, h3⟩ := h.get ha
    exact ⟨h1, v, h2, h3.keep (keeps_out S φ k)⟩

theorem ObjRd.at {w : World} {S : Nat → Nat → Prop} {φ : Nat → Option Nat} {cs : List AV} {e : TypeId} {gr : Bool} {b : Nat} (h : ObjRd P w S φ (.cells cs e gr) b) (off : Nat) : RdAt P w S φ (cs.drop off) b off := by
  obtain ⟨arr, fz, h1, h2, h3, h4, h5, h6⟩ := h
  refine .mk fun i a ha => ?_
  rw [List.getElem?_drop] at ha
  obtain ⟨v, hv, hr⟩ := h5.get ha
  refine ⟨h6 a (List.mem_of_getElem? ha), v, ?_, hr⟩
  rw [List.getElem?_take] at hv
  split at hv
  · simp only [World.cell?, h1, Option.isSome_none, Bool.false_eq_true, if_false]
    simpa using hv
  · cases hv

/-- A pointer's cells. -/
theorem cellsFrom_rd (hI : Inv P G C g d) {p : AV} {v : Value} {cs : List AV} {rd : List Nat} (hp : Rd P C.w C.S C.φ p v) (hc : cellsFrom g p = some (cs, rd)) :
    ∃ b off, v = .pointer (some ⟨b, off, none⟩) ∧ RdAt P C.w C.S C.φ cs b off := by
  cases p <;> simp only [cellsFrom] at hc <;> try cases hc
  case lit.refl k =>
    simp only [Rd] at hp
    obtain ⟨b, off, rfl, _, hr⟩ := hp
    exact ⟨b, off, rfl, hr.out⟩
  case ref id off =>
    cases hg : g id with
    | none => simp [hg] at hc
    | some o =>
      cases o with
      | cells xs e gr =>
        simp [hg] at hc
        obtain ⟨rfl, rfl⟩ := hc
        simp only [Rd] at hp
        obtain ⟨b, hb, rfl⟩ := hp
        obtain ⟨b', h1, _, h3⟩ := hI.obj id _ hg
        rw [hb] at h1; cases h1
        exact ⟨b, off, rfl, h3.at off⟩

theorem run_loadCells_at {w : World} {b off : Nat} {vs : List Value} (hv : ∀ (i : Nat) (v : Value), vs[i]? = some v → w.cell? ⟨b, off + i, none⟩ = some v) :
    (loadCells ⟨b, off, none⟩ vs.length).run P w = .ok vs.toArray w :=
  run_loadCells_list w ⟨b, off, none⟩ vs fun j v hj => by rw [addr_add]; exact hv j v hj

theorem loadT_rd (hT : T.Ok P) {t : TypeId} {cs : List AV} {a : AV} {w : World} {S : Nat → Nat → Prop} {φ : Nat → Option Nat} {b off : Nat} (hr : RdAt P w S φ cs b off) (hl : loadT T t cs = some a) :
    ∃ v, (loadVar t ⟨b, off, none⟩).run P w = .ok v w ∧ Rd P w S φ a v := by
  unfold loadT at hl
  cases hg : aggB T t with
  | none => simp [hg] at hl
  | some x =>
    cases x with
    | true =>
      cases hn : T.siz t with
      | none => simp [hg, hn] at hl
      | some n =>
        simp only [hg, hn] at hl
        split at hl
        · rename_i hle
          cases hl
          obtain ⟨vs, h1, h2, h3⟩ := (hr.take n).list
          have hlen : vs.length = n := by rw [← h1.length]; simp; omega
          refine ⟨.agg vs.toArray, ?_, by simp only [Rd]; exact ⟨vs, rfl, h1⟩⟩
          have := run_loadCells_at (P := P) h3
          rw [hlen] at this
          simp [loadVar, run_agg hT hg, run_siz hT hn, this]
        · cases hl
    | false =>
      simp only [hg] at hl
      cases cs with
      | nil => simp at hl
      | cons c cs =>
        simp at hl; subst hl
        obtain ⟨_, v, hv, hrv⟩ := hr.get (i := 0) (by simp : (c :: cs)[0]? = some c)
        refine ⟨v, ?_, hrv⟩
        simp at hv
        simp [loadVar, run_agg hT hg, hv]

theorem sim_load (hT : T.Ok P) (hI : Inv P G C g d) {t : TypeId} {p : AV} {v : Value} {e : Eff} (hp : Rd P C.w C.S C.φ p v) (he : aLoad T g t p = some e) : SimV P G C g d h (Instr.loadAt t v) e := by
  unfold aLoad at he
  cases hc : cellsFrom g p with
  | none => simp [hc] at he
  | some x =>
    obtain ⟨cs, rd⟩ := x
    simp only [hc, Option.map_eq_some_iff] at he
    obtain ⟨a, ha, rfl⟩ := he
    obtain ⟨b, off, rfl, hr⟩ := cellsFrom_rd hI hp hc
    obtain ⟨u, hu, hru⟩ := loadT_rd hT hr ha
    exact .pure hI (by simp [Instr.loadAt, Instr.sureAddr, hu]) hru

theorem run_fieldPlace (hT : T.Ok P) {fd : Field} {n : Nat} (hn : T.siz fd.type = some (n + 1)) (b off : Nat) (w : World) : (fieldPlace ⟨b, off, none⟩ fd).run P w = .ok ⟨b, off + fd.offset, none⟩ w := by
  simp [fieldPlace, run_siz hT hn, addr_add]

theorem sim_fieldAddr (hT : T.Ok P) (hI : Inv P G C g d) {s : TypeId} {f : Nat} {p a : AV} {v : Value} (hp : Rd P C.w C.S C.φ p v) (he : aFieldAddr T s p f = some a) :
    SimV P G C g d h (Instr.fieldAt s v f) (.of a) := by
  unfold aFieldAddr at he
  split at he <;> try cases he
  rename_i fields hu
  split at he <;> try cases he
  rename_i fd hfd
  split at he <;> try cases he
  rename_i n hn
  split at he <;> try cases he
  · rename_i k cs
    simp only [Rd] at hp
    obtain ⟨b, off, rfl, hs, hr⟩ := hp
    refine .pure hI (v := .pointer (some ⟨b, off + fd.offset, none⟩)) (by simp [Instr.fieldAt, run_und hT hu, hfd, Instr.sureAddr, run_fieldPlace hT hn]) ?_
    simp only [Rd]
    exact ⟨b, _, rfl, hs, hr.drop _⟩
  · rename_i id off
    simp only [Rd] at hp
    obtain ⟨b, hb, rfl⟩ := hp
    refine .pure hI (v := .pointer (some ⟨b, off + fd.offset, none⟩)) (by simp [Instr.fieldAt, run_und hT hu, hfd, Instr.sureAddr, run_fieldPlace hT hn]) ?_
    simp only [Rd]
    exact ⟨b, hb, rfl⟩

theorem run_part (hT : T.Ok P) {t : TypeId} {cs : List AV} {vs : List Value} {off : Nat} {a : AV} {w : World} {S : Nat → Nat → Prop} {φ : Nat → Option Nat} (hr : RdL P w S φ cs vs) (ha : aPart T t cs off = some a) :
    ∃ v, (part t ⟨vs⟩ off).run P w = .ok v w ∧ Rd P w S φ a v := by
  unfold aPart at ha
  cases hg : aggB T t with
  | none => simp [hg] at ha
  | some x =>
    cases x with
    | true =>
      simp only [hg, Option.map_eq_some_iff] at ha
      obtain ⟨n, hn, rfl⟩ := ha
      refine ⟨.agg ⟨(vs.drop off).take n⟩, ?_, by simp only [Rd]; exact ⟨_, rfl, (hr.drop off).take n⟩⟩
      simp [part, run_agg hT hg, run_siz hT hn]
    | false =>
      simp only [hg] at ha
      obtain ⟨v, hv, hrv⟩ := hr.get ha
      exact ⟨v, by simp [part, run_agg hT hg, hv], hrv⟩

theorem sim_field (hT : T.Ok P) (hI : Inv P G C g d) {s : TypeId} {f : Nat} {x a : AV} {v : Value} (hp : Rd P C.w C.S C.φ x v) (he : aField T s x f = some a) :
    SimV P G C g d h (Instr.field s v f) (.of a) := by
  unfold aField at he
  split at he <;> try cases he
  rename_i fields cs hu
  split at he <;> try cases he
  rename_i fd hfd
  simp only [Rd] at hp
  obtain ⟨vs, rfl, hr⟩ := hp
  obtain ⟨u, hu', hru⟩ := run_part hT hr he
  exact .pure hI (by simp [Instr.field, run_und hT hu, hfd, asAgg, hu']) hru

theorem sim_indexAddr (hT : T.Ok P) (hI : Inv P G C g d) {t : TypeId} {x i a : AV} {v u : Value} (hx : Rd P C.w C.S C.φ x v) (hi : Rd P C.w C.S C.φ i u) (he : aIndexAddr T t x i = some a) :
    SimV P G C g d h (Instr.indexAt t v u) (.of a) := by
  unfold aIndexAddr at he
  split at he <;> try cases he
  rename_i k n
  simp only [Rd] at hi
  subst hi
  split at he <;> try cases he
  all_goals
    split at he <;> try cases he
    rename_i hb
    simp only [Option.map_eq_some_iff] at he
    obtain ⟨s, hs, rfl⟩ := he
    simp only [Rd] at hx
  · rename_i len e kk cs hu
    obtain ⟨b, off, rfl, ht, hr⟩ := hx
    refine .pure hI (v := .pointer (some ⟨b, off + n.toNat * s, none⟩)) (by simp [Instr.indexAt, run_und hT hu, asIntOf, Instr.sureAddr, hb.1, hb.2, run_siz hT hs, addr_add]) ?_
    simp only [Rd]
    exact ⟨b, _, rfl, ht, hr.drop _⟩
  · rename_i len e id off hu
    obtain ⟨b, hb', rfl⟩ := hx
    refine .pure hI (v := .pointer (some ⟨b, off + n.toNat * s, none⟩)) (by simp [Instr.indexAt, run_und hT hu, asIntOf, Instr.sureAddr, hb.1, hb.2, run_siz hT hs, addr_add]) ?_
    simp only [Rd]
    exact ⟨b, hb', rfl⟩
  · rename_i e nl kk cs len cap hu
    obtain ⟨rfl, hb⟩ := hb
    simp only [Bool.false_eq_true, if_false] at hx
    rcases hx with ⟨b, off, c, rfl, ht, hr, _⟩ | ⟨_, _, rfl, _⟩
    · refine .pure hI (v := .pointer (some ⟨b, off + n.toNat * s, none⟩)) (by simp [Instr.indexAt, run_und hT hu, asIntOf, hb.1, hb.2, run_siz hT hs, addr_add]) ?_
      simp only [Rd]
      exact ⟨b, _, rfl, ht, hr.drop _⟩
    · exfalso; omega
  · rename_i e id off len cap hu
    obtain ⟨b, c, hb', rfl, _⟩ := hx
    refine .pure hI (v := .pointer (some ⟨b, off + n.toNat * s, none⟩)) (by simp [Instr.indexAt, run_und hT hu, asIntOf, hb.1, hb.2, run_siz hT hs, addr_add]) ?_
    simp only [Rd]
    exact ⟨b, hb', rfl⟩

theorem sim_index (hT : T.Ok P) (hI : Inv P G C g d) {t : TypeId} {x i a : AV} {v u : Value} (hx : Rd P C.w C.S C.φ x v) (hi : Rd P C.w C.S C.φ i u) (he : aIndex T t x i = some a) :
    SimV P G C g d h (Instr.index t v u) (.of a) := by
  unfold aIndex at he
  split at he <;> try cases he
  rename_i k n
  simp only [Rd] at hi
  subst hi
  split at he <;> try cases he
  · rename_i len e cs hu
    split at he <;> try cases he
    rename_i hb
    simp only [Option.bind_eq_some_iff] at he
    obtain ⟨s, hs, ha⟩ := he
    simp only [Rd] at hx
    obtain ⟨vs, rfl, hr⟩ := hx
    obtain ⟨y, hy, hry⟩ := run_part hT hr ha
    exact .pure hI (by simp [Instr.index, run_und hT hu, asIntOf, hb.1, hb.2, run_siz hT hs, hy]) hry
  · rename_i s hu
    split at he <;> try cases he
    rename_i hb
    simp only [Option.map_eq_some_iff] at he
    obtain ⟨c, hc, rfl⟩ := he
    simp only [Rd] at hx
    subst hx
    refine .pure hI (v := .int .u8 c.toNat) (by simp [Instr.index, run_und hT hu, asIntOf, hb, hc]) ?_
    simp only [Rd]

end Go.Vid

/-
Each operation of the abstract machine does what the model's operation does: cuts, lengths, arithmetic, comparisons, conversions, structs.
-/
namespace Go.Vid

variable {P : Program} {G : Nat → Option (List AV)} {T : Tab} {C C' : Ctx} {g : Nat → Option AObj} {d h : Nat}

theorem rd_int {w : World} {S : Nat → Nat → Prop} {φ : Nat → Option Nat} {k : IntKind} {n : Int} : Rd P w S φ (.int k n) (.int k n) := by simp only [Rd]
theorem rd_bool {w : World} {S : Nat → Nat → Prop} {φ : Nat → Option Nat} {b : Bool} : Rd P w S φ (.bool b) (.bool b) := by simp only [Rd]
theorem rd_str {w : World} {S : Nat → Nat → Prop} {φ : Nat → Option Nat} {s : ByteArray} : Rd P w S φ (.str s) (.string s) := by simp only [Rd]

/-- Optional values, read one by one. -/
def RdO (P : Program) (w : World) (S : Nat → Nat → Prop) (φ : Nat → Option Nat) : Option AV → Option Value → Prop
  | none, none => True
  | some a, some v => Rd P w S φ a v
  | _, _ => False

theorem bound_rd {w : World} {S : Nat → Nat → Prop} {φ : Nat → Option Nat} {a : AV} {v : Value} {y l z : Nat} {code : BoundsCode} (hr : Rd P w S φ a v) (hb : bound (some a) y z = some l) :
    (Instr.sliceBound v y code).run P w = .ok l w ∧ l ≤ y := by
  cases a <;> simp only [bound] at hb <;> try cases hb
  rename_i k n
  split at hb <;> cases hb
  rename_i hle
  simp only [Rd] at hr
  subst hr
  exact ⟨run_sliceBound w k n y code hle.1 hle.2, by omega⟩

theorem bounds_rd {w : World} {S : Nat → Nat → Prop} {φ : Nat → Option Nat} {isS : Bool} {len c l hh : Nat} {cap c' : Option Nat} {lo hi mx : Option AV} {vlo vhi vmx : Option Value}
    (h1 : RdO P w S φ lo vlo) (h2 : RdO P w S φ hi vhi) (h3 : RdO P w S φ mx vmx) (hlen : len ≤ c) (hcap : ∀ m, cap = some m → c = m)
    (hb : bounds3 len cap lo hi mx = some (l, hh, c')) :
    ∃ m, (Instr.sliceBounds isS len c vlo vhi vmx).run P w = .ok (l, hh, m) w ∧ l ≤ hh ∧ hh ≤ m ∧ (∀ x, c' = some x → m = x) ∧ (c' = none → m = c ∧ cap = none ∧ hh ≤ len) ∧ m ≤ c := by
  have hgd : cap.getD len ≤ c := by
    cases cap with
    | none => exact hlen
    | some m => rw [hcap m rfl]; simp
  have lowb : ∀ (y l' : Nat) (code : BoundsCode), bound lo y 0 = some l' → ((match vlo with | some v => Instr.sliceBound v y code | none => pure 0 : Sem Nat)).run P w = .ok l' w ∧ l' ≤ y := by
    intro y l' code hl
    cases lo <;> cases vlo <;> simp only [RdO] at h1
    · simp [bound] at hl; subst hl; simp
    · exact bound_rd h1 hl
  cases mx with
  | none =>
    cases vmx with
    | some v => simp only [RdO] at h3
    | none =>
      cases hi with
      | none =>
        cases vhi with
        | some v => simp only [RdO] at h2
        | none =>
          simp only [bounds3] at hb
          split at hb <;> cases hb
          rename_i hl
          obtain ⟨r1, r2⟩ := lowb _ _ .sliceB hl
          refine ⟨c, ?_, r2, hlen, hcap, fun h => ⟨rfl, h, Nat.le_refl _⟩, Nat.le_refl _⟩
          cases vlo <;> simp_all [Instr.sliceBounds]
      | some hv =>
        cases vhi with
        | none => simp only [RdO] at h2
        | some v =>
          simp only [bounds3] at hb
          split at hb <;> try cases hb
          rename_i hh' hbh
          split at hb <;> cases hb
          rename_i hl
          simp only [RdO] at h2
          have hle : hh ≤ cap.getD len := (bound_rd (code := .sliceB) h2 hbh).2
          have r0 : (Instr.sliceBound v c (if isS then .sliceAcap else .sliceAlen)).run P w = .ok hh w := by
            cases hv <;> simp only [bound] at hbh <;> try cases hbh
            rename_i k n
            split at hbh <;> cases hbh
            rename_i hle'
            simp only [Rd] at h2
            subst h2
            exact run_sliceBound w k n c _ hle'.1 (by omega)
          obtain ⟨r1, r2⟩ := lowb _ _ .sliceB hl
          refine ⟨c, ?_, r2, by omega, hcap, fun h => ⟨rfl, h, by subst h; simpa using hle⟩, Nat.le_refl _⟩
          cases vlo <;> simp_all [Instr.sliceBounds]
  | some mv =>
    cases vmx with
    | none => simp only [RdO] at h3
    | some vm =>
      cases hi with
      | none => simp [bounds3] at hb
      | some hv =>
        cases vhi with
        | none => simp only [RdO] at h2
        | some v =>
          simp only [bounds3] at hb
          split at hb <;> try cases hb
          rename_i m hbm
          split at hb <;> try cases hb
          rename_i hh' hbh
          split at hb <;> cases hb
          rename_i hl
          simp only [RdO] at h2 h3
          have hle : m ≤ cap.getD len := (bound_rd (code := .sliceB) h3 hbm).2
          have r0 : (Instr.sliceBound vm c (if isS then .slice3Acap else .slice3Alen)).run P w = .ok m w := by
            cases mv <;> simp only [bound] at hbm <;> try cases hbm
            rename_i k n
            split at hbm <;> cases hbm
            rename_i hle'
            simp only [Rd] at h3
            subst h3
            exact run_sliceBound w k n c _ hle'.1 (by omega)
          obtain ⟨r3, r4⟩ := bound_rd (code := .slice3B) h2 hbh
          obtain ⟨r1, r2⟩ := lowb _ _ .slice3C hl
          refine ⟨m, ?_, r2, r4, fun x hx => by cases hx; rfl, (fun h => by cases h), by omega⟩
          cases vlo <;> simp_all [Instr.sliceBounds]

theorem rdAt_nil {w : World} {S : Nat → Nat → Prop} {φ : Nat → Option Nat} {b off : Nat} : RdAt P w S φ [] b off := by simp only [RdAt]

theorem sim_slice (hT : T.Ok P) (hI : Inv P G C g d) {t : TypeId} {x a : AV} {v : Value} {lo hi mx : Option AV} {vlo vhi vmx : Option Value} (hx : Rd P C.w C.S C.φ x v)
    (h1 : RdO P C.w C.S C.φ lo vlo) (h2 : RdO P C.w C.S C.φ hi vhi) (h3 : RdO P C.w C.S C.φ mx vmx) (he : aSlice T t x lo hi mx = some a) :
    SimV P G C g d h (Instr.sliceAt t v vlo vhi vmx) (.of a) := by
  unfold aSlice at he
  split at he <;> try cases he
  · rename_i hu
    split at he <;> try cases he
    rename_i s
    split at he <;> cases he
    rename_i l hh c' hb
    simp only [Rd] at hx
    subst hx
    cases vmx with
    | some _ => simp only [RdO] at h3
    | none =>
      obtain ⟨m, hr, _⟩ := bounds_rd (isS := false) (c := s.size) h1 h2 h3 (Nat.le_refl _) (fun m hm => by cases hm; rfl) hb
      exact .pure hI (v := .string (s.extract l hh)) (by simp [Instr.sliceAt, Instr.slice, run_und hT hu, hr]) rd_str
  · rename_i e hu
    split at he <;> try cases he
    rename_i sz hs
    unfold aSliceRow at he
    split at he <;> try cases he
    · rename_i nl k cs len cap
      split at he <;> cases he
      rename_i l hh c' hb
      simp only [Rd] at hx
      cases nl with
      | true =>
        simp only [if_true] at hx
        obtain ⟨rfl, rfl, rfl, hc0⟩ := hx
        obtain ⟨m, hr, q1, q2, q3, q4, q5⟩ := bounds_rd (isS := true) (c := 0) h1 h2 h3 (Nat.le_refl _) (fun m hm => (hc0 m hm).symm) hb
        have hm0 : m = 0 ∧ hh = 0 ∧ l = 0 := by omega
        obtain ⟨rfl, rfl, rfl⟩ := hm0
        refine .pure hI (v := .slice none 0 0) (by simp [Instr.sliceAt, Instr.slice, run_und hT hu, hr, run_siz hT hs]) ?_
        simp only [Rd, if_true]
        refine ⟨trivial, trivial, trivial, fun m hm => ?_⟩
        cases c' with
        | none => simp at hm
        | some x => have := q3 x rfl; simp at hm; omega
      | false =>
        simp only [Bool.false_eq_true, if_false] at hx
        rcases hx with ⟨b, off, c, rfl, ht, hr', hlc, hcap⟩ | ⟨ad, rfl, rfl, rfl, hc0⟩
        case inr =>
          obtain ⟨m, hr, q1, q2, q3, q4, q5⟩ := bounds_rd (isS := true) (c := 0) h1 h2 h3 (Nat.le_refl _) (fun m hm => (hc0 m hm).symm) hb
          have hm0 : m = 0 ∧ hh = 0 ∧ l = 0 := by omega
          obtain ⟨rfl, rfl, rfl⟩ := hm0
          refine .pure hI (v := .slice (some ad) 0 0) (by simp [Instr.sliceAt, Instr.slice, run_und hT hu, hr, run_siz hT hs]) ?_
          simp only [Rd, Bool.false_eq_true, if_false]
          refine .inr ⟨ad, rfl, by simp, by simp, fun m hm => ?_⟩
          cases c' with
          | none => simp at hm
          | some x => have := q3 x rfl; simp at hm; omega
        obtain ⟨m, hr, q1, q2, q3, q4, q5⟩ := bounds_rd (isS := true) (c := c) h1 h2 h3 hlc hcap hb
        refine .pure hI (v := .slice (some ⟨b, if m = l then off else off + l * sz, none⟩) (hh - l) (m - l)) ?_ ?_
        · simp only [Instr.sliceAt, Instr.slice, Sem.run_bind, run_und hT hu, Result.andThen_ok, hr, run_siz hT hs]
          by_cases hml : m = l <;> simp [hml, addr_add]
        · simp only [Rd, Bool.false_eq_true, if_false]
          refine .inl ⟨b, _, _, rfl, ht, ?_, by omega, fun y hy => ?_⟩
          · by_cases e1 : hh = l
            · simp only [e1, if_true]; exact rdAt_nil
            · rw [if_neg e1, if_neg (by omega)]
              exact hr'.drop _
          · cases c' with
            | none => simp at hy
            | some x => have := q3 x rfl; simp at hy; omega
    · rename_i id off len cap
      simp only [Rd] at hx
      obtain ⟨b, c, hb', rfl, hlc, hcc⟩ := hx
      have hcap : ∀ m, cap = some m → c = m := fun m hm => by subst hm; exact hcc
      split at he <;> try cases he
      · rename_i l hh cc hb
        obtain ⟨m, hr, q1, q2, q3, q4, q5⟩ := bounds_rd (isS := true) (c := c) h1 h2 h3 hlc hcap hb
        have hm := q3 cc rfl
        subst hm
        refine .pure hI (v := .slice (some ⟨b, if m = l then off else off + l * sz, none⟩) (hh - l) (m - l)) ?_ ?_
        · simp only [Instr.sliceAt, Instr.slice, Sem.run_bind, run_und hT hu, Result.andThen_ok, hr, run_siz hT hs]
          by_cases hml : m = l <;> simp [hml, addr_add]
        · simp only [Rd]
          exact ⟨b, _, hb', rfl, by omega, rfl⟩
      · rename_i l hh hb
        split at he <;> cases he
        rename_i hl0
        subst hl0
        obtain ⟨m, hr, q1, q2, q3, q4, q5⟩ := bounds_rd (isS := true) (c := c) h1 h2 h3 hlc hcap hb
        obtain ⟨rfl, rfl, hhl⟩ := q4 rfl
        refine .pure hI (v := .slice (some ⟨b, off, none⟩) hh m) ?_ ?_
        · simp only [Instr.sliceAt, Instr.slice, Sem.run_bind, run_und hT hu, Result.andThen_ok, hr, run_siz hT hs]
          simp [addr_add]
        · simp only [Rd]
          exact ⟨b, _, hb', rfl, by omega, hcc⟩
  · rename_i n e hu
    split at he <;> try cases he
    rename_i sz hs
    split at he <;> cases he
    · rename_i k cs l hh c' hb
      obtain ⟨m, hr, q1, q2, q3, q4, q5⟩ := bounds_rd (isS := false) (c := n) h1 h2 h3 (Nat.le_refl _) (fun m hm => by cases hm; rfl) hb
      have hm := q3 c' rfl
      subst hm
      simp only [Rd] at hx
      obtain ⟨b, off, rfl, ht, hr'⟩ := hx
      refine .pure hI (v := .slice (some ⟨b, if m = l then off else off + l * sz, none⟩) (hh - l) (m - l)) ?_ ?_
      · simp only [Instr.sliceAt, Instr.sureAddr, Sem.run_bind, run_und hT hu, Result.andThen_ok, Sem.run_pure, hr, run_siz hT hs]
        by_cases hml : m = l <;> simp [hml, addr_add]
      · simp only [Rd, Bool.false_eq_true, if_false]
        refine .inl ⟨b, _, _, rfl, ht, ?_, by omega, fun y hy => by simp at hy; omega⟩
        by_cases e1 : hh = l
        · simp only [e1, if_true]; exact rdAt_nil
        · rw [if_neg e1, if_neg (by omega)]
          exact hr'.drop _
    · rename_i id off l hh c' hb
      obtain ⟨m, hr, q1, q2, q3, q4, q5⟩ := bounds_rd (isS := false) (c := n) h1 h2 h3 (Nat.le_refl _) (fun m hm => by cases hm; rfl) hb
      have hm := q3 c' rfl
      subst hm
      simp only [Rd] at hx
      obtain ⟨b, hb', rfl⟩ := hx
      refine .pure hI (v := .slice (some ⟨b, if m = l then off else off + l * sz, none⟩) (hh - l) (m - l)) ?_ ?_
      · simp only [Instr.sliceAt, Instr.sureAddr, Sem.run_bind, run_und hT hu, Result.andThen_ok, Sem.run_pure, hr, run_siz hT hs]
        by_cases hml : m = l <;> simp [hml, addr_add]
      · simp only [Rd]
        exact ⟨b, _, hb', rfl, by omega, rfl⟩

theorem sim_len (hT : T.Ok P) (hI : Inv P G C g d) {t ty : TypeId} {ts : List TypeId} {x a : AV} {v : Value} {vs : List Value} (hx : Rd P C.w C.S C.φ x v) (he : aLen T t x = some a) :
    SimV P G C g d h (Builtin.len_ ⟨t :: ts⟩ ty ⟨v :: vs⟩) (.of a) := by
  unfold aLen at he
  split at he <;> cases he <;> rename_i hu <;> (try simp only [Rd] at hx)
  · subst hx; exact .pure hI (by simp [Builtin.len_, run_und hT hu, goInt]) rd_int
  · exact .pure hI (by simp [Builtin.len_, run_und hT hu, goInt]) rd_int
  · split at hx
    · obtain ⟨rfl, rfl, _⟩ := hx; exact .pure hI (by simp [Builtin.len_, run_und hT hu, goInt]) rd_int
    · rcases hx with ⟨b, off, c, rfl, _⟩ | ⟨_, rfl, rfl, _⟩ <;> exact .pure hI (by simp [Builtin.len_, run_und hT hu, goInt]) rd_int
  · obtain ⟨b, c, _, rfl, _⟩ := hx; exact .pure hI (by simp [Builtin.len_, run_und hT hu, goInt]) rd_int

theorem sim_cap (hT : T.Ok P) (hI : Inv P G C g d) {t ty : TypeId} {ts : List TypeId} {x a : AV} {v : Value} {vs : List Value} (hx : Rd P C.w C.S C.φ x v) (he : aCap T t x = some a) :
    SimV P G C g d h (Builtin.cap_ ⟨t :: ts⟩ ty ⟨v :: vs⟩) (.of a) := by
  unfold aCap at he
  split at he <;> cases he <;> rename_i hu <;> (try simp only [Rd] at hx)
  · exact .pure hI (by simp [Builtin.cap_, run_und hT hu, goInt]) rd_int
  · split at hx
    · obtain ⟨rfl, rfl, _, hc⟩ := hx; have := hc _ rfl; subst this; exact .pure hI (by simp [Builtin.cap_, run_und hT hu, goInt]) rd_int
    · rcases hx with ⟨b, off, c, rfl, _, _, _, hc⟩ | ⟨_, rfl, rfl, _, hc⟩ <;> have := hc _ rfl <;> subst this <;> exact .pure hI (by simp [Builtin.cap_, run_und hT hu, goInt]) rd_int
  · obtain ⟨b, c, _, rfl, _, rfl⟩ := hx; exact .pure hI (by simp [Builtin.cap_, run_und hT hu, goInt]) rd_int

end Go.Vid

/-
Each operation of the abstract machine does what the model's operation does: comparisons, arithmetic, conversions, structs.
-/
namespace Go.Vid

variable {P : Program} {G : Nat → Option (List AV)} {T : Tab} {C C' : Ctx} {g : Nat → Option AObj} {d h : Nat}

theorem run_eqFs (hT : T.Ok P) {w : World} {S : Nat → Nat → Prop} {φ : Nat → Option Nat} {E : TypeId → AV → AV → Option Bool} {n : Nat}
    (hE : ∀ t x y u v r, Rd P w S φ x u → Rd P w S φ y v → E t x y = some r → (Op.equalIn n t u v).run P w = .ok r w)
    {xs ys : List AV} {us vs : List Value} (hx : RdL P w S φ xs us) (hy : RdL P w S φ ys vs) : ∀ (fs : List Field) (r : Bool), eqFs T E xs ys fs = some r →
    (Op.eqFields n ⟨us⟩ ⟨vs⟩ fs).run P w = .ok r w
  | [], r, h => by simp only [eqFs, Option.some.injEq] at h; subst h; simp [Op.eqFields]
  | f :: fs, r, h => by
    simp only [eqFs] at h
    simp only [Op.eqFields]
    split at h
    · rename_i hn
      rw [if_pos hn]
      split at h <;> try cases h
      rename_i a b ha hb
      obtain ⟨u, hu, hru⟩ := run_part hT hx ha
      obtain ⟨v, hv, hrv⟩ := run_part hT hy hb
      split at h <;> try cases h
      · rename_i he
        have := hE _ _ _ _ _ _ hru hrv he
        simp only [Sem.run_bind, hu, hv, this, Result.andThen_ok, Bool.not_true, Bool.false_eq_true, if_false]
        exact run_eqFs hT hE hx hy fs r h
      · rename_i he
        have := hE _ _ _ _ _ _ hru hrv he
        simp only [Sem.run_bind, hu, hv, this, Result.andThen_ok, Bool.not_false, if_true, Sem.run_pure]
    · rename_i hn
      rw [if_neg hn]
      exact run_eqFs hT hE hx hy fs r h

theorem run_aEq (hT : T.Ok P) {w : World} {S : Nat → Nat → Prop} {φ : Nat → Option Nat} : ∀ (n : Nat) (t : TypeId) (x y : AV) (u v : Value) (r : Bool),
    Rd P w S φ x u → Rd P w S φ y v → aEq T n t x y = some r → (Op.equalIn n t u v).run P w = .ok r w
  | 0, _, _, _, _, _, _, _, _, h => by simp [aEq] at h
  | n + 1, t, x, y, u, v, r, hx, hy, h => by
    simp only [aEq] at h
    split at h <;> try cases h
    all_goals simp only [Rd] at hx hy
    · rename_i hu
      subst hx; subst hy; simp [Op.equalIn, run_und hT hu]
    · rename_i hu
      split at h <;> cases h
      rename_i hk; subst hk
      subst hx; subst hy; simp [Op.equalIn, run_und hT hu]
    · rename_i hu
      subst hx; subst hy; simp [Op.equalIn, run_und hT hu]
    · rename_i hu
      simp only [if_true] at hx
      obtain ⟨rfl, _⟩ := hx
      cases r <;> simp only [if_true, Bool.false_eq_true, if_false] at hy
      · rcases hy with ⟨_, _, _, rfl, _⟩ | ⟨_, rfl, _⟩ <;> simp [Op.equalIn, run_und hT hu]
      · obtain ⟨rfl, _⟩ := hy; simp [Op.equalIn, run_und hT hu]
    · rename_i hu _
      simp only [if_true] at hy
      obtain ⟨rfl, _⟩ := hy
      cases r <;> simp only [if_true, Bool.false_eq_true, if_false] at hx
      · rcases hx with ⟨_, _, _, rfl, _⟩ | ⟨_, rfl, _⟩ <;> simp [Op.equalIn, run_und hT hu]
      · obtain ⟨rfl, _⟩ := hx; simp [Op.equalIn, run_und hT hu]
    · rename_i hu
      simp only [if_true] at hy
      obtain ⟨rfl, _⟩ := hy
      obtain ⟨_, _, _, rfl, _⟩ := hx; simp [Op.equalIn, run_und hT hu]
    · rename_i hu
      simp only [if_true] at hx
      obtain ⟨rfl, _⟩ := hx
      obtain ⟨_, _, _, rfl, _⟩ := hy; simp [Op.equalIn, run_und hT hu]
    · rename_i hu; subst hx; subst hy; simp [Op.equalIn, run_und hT hu]
    · rename_i hu; subst hx; obtain ⟨_, rfl, _⟩ := hy; simp [Op.equalIn, run_und hT hu]
    · rename_i hu; subst hy; obtain ⟨_, rfl, _⟩ := hx; simp [Op.equalIn, run_und hT hu]
    · rename_i hu
      split at h <;> try cases h
      rename_i he
      obtain ⟨us, rfl, hus⟩ := hx
      obtain ⟨vs, rfl, hvs⟩ := hy
      have hun := hT.und t _ hu
      have hf : P.fieldsOf t = ‹Array Field› := by simp [Program.fieldsOf, hun]
      rw [run_equalIn_struct w n t ⟨us⟩ ⟨vs⟩ (by rw [hun, hf]) (hT.eqs t he).1, hf]
      exact run_eqFs hT (fun t x y u v r => run_aEq hT n t x y u v r) hus hvs _ r h

theorem sim_arith (hI : Inv P G C g d) {op : BinOp} {t : TypeId} {k : IntKind} {a b : Int} {x : AV} (hop : op ≠ .shl ∧ op ≠ .shr) (h : aArith op k a b = some x) : ∃ v, (binOp op t (.int k a) (.int k b)).run P C.w = .ok v C.w ∧ Rd P C.w C.S C.φ x v := by
  have := hI
  cases op <;> simp only [aArith] at h
  case shl => exact absurd rfl hop.1
  case shr => exact absurd rfl hop.2
  case quo =>
    by_cases hb : b = 0
    · rw [if_pos hb] at h; cases h
    · rw [if_neg hb] at h; cases h; exact ⟨.int k (k.wrap (a.tdiv b)), by simp [binOp, Op.intDiv, hb], rd_int⟩
  case rem =>
    by_cases hb : b = 0
    · rw [if_pos hb] at h; cases h
    · rw [if_neg hb] at h; cases h; exact ⟨.int k (a.tmod b), by simp [binOp, Op.intDiv, hb], rd_int⟩
  case andNot => cases h
  all_goals (cases h; exact ⟨_, by simp [binOp, Op.intArith, Op.intBits, Op.intCmp]; rfl, by simp only [Rd]⟩)

theorem sim_shift {w : World} {S : Nat → Nat → Prop} {φ : Nat → Option Nat} {op : BinOp} {t : TypeId} {k k' : IntKind} {a b : Int} {x : AV} (hop : op = .shl ∨ op = .shr) (h : aShift op k a b = some x) : ∃ v, (binOp op t (.int k a) (.int k' b)).run P w = .ok v w ∧ Rd P w S φ x v := by
  unfold aShift at h
  split at h <;> try cases h
  rename_i hb
  rcases hop with rfl | rfl <;> simp only [Option.some.injEq] at h <;> subst h <;> exact ⟨_, by simp [binOp, Op.shift, hb], rd_int⟩

theorem sim_str {w : World} {S : Nat → Nat → Prop} {φ : Nat → Option Nat} {op : BinOp} {t : TypeId} {a b : ByteArray} {x : AV} (h : aStr op a b = some x) : ∃ v, (binOp op t (.string a) (.string b)).run P w = .ok v w ∧ Rd P w S φ x v := by
  cases op <;> simp only [aStr] at h <;> try cases h
  case add =>
    split at h <;> cases h
    rename_i hle
    refine ⟨.string (a ++ b), ?_, rd_str⟩
    have h2 : maxRoom = 70368744177664 := by decide
    rw [h2] at hle
    simp [binOp, Op.stringOp]
    omega
  all_goals exact ⟨_, by simp [binOp, Op.stringOp], rd_bool⟩

/-- The guard ahead of a comparison, where it lets by. -/
theorem run_guard {op : BinOp} {t : TypeId} {x y : Operand} {u v : Value} {w : World} (h : (u ≠ .nilIface ∨ v ≠ .nilIface) ∧ ((∀ c, u ≠ .agg c) ∨ (∀ c, v ≠ .agg c) ∨ P.eqGuardType P.depth t = false)) :
    (eqGuard op t x y u v).run P w = .ok () w := by
  have key : ∀ s1 s2 : Sem Unit, ((∃ c e, u = .agg c ∧ v = .agg e) → s2.run P w = .ok () w) →
      (match u, v with
        | .nilIface, .nilIface => s1
        | .agg _, .agg _ => s2
        | _, _ => (pure () : Sem Unit)).run P w = .ok () w := by
    intro s1 s2 h2
    split
    · exact absurd rfl (h.1.elim (fun h => absurd rfl h) (fun h => h))
    · exact h2 ⟨_, _, rfl, rfl⟩
    · rfl
  have key2 : (∃ c e, u = .agg c ∧ v = .agg e) → P.eqGuardType P.depth t = false := by
    rintro ⟨c, e, rfl, rfl⟩
    rcases h.2 with h | h | h
    · exact absurd rfl (h _)
    · exact absurd rfl (h _)
    · exact h
  cases op <;> first
    | (simp [eqGuard]; done)
    | (simp only [eqGuard]; exact key _ _ fun hh => by simp [key2 hh])

theorem run_guardK {op : BinOp} {t : TypeId} {x y : Operand} {w : World} (hk : (isK x || isK y) = true) : (eqGuard op t x y .nilIface .nilIface).run P w = .ok () w := by
  cases x <;> cases y <;> first | exact Bool.noConfusion hk | (cases op <;> simp [eqGuard])

theorem sim_bin (hT : T.Ok P) (hI : Inv P G C g d) {op : BinOp} {t : TypeId} {xo yo : Operand} {x y a : AV} {u v : Value} (hx : Rd P C.w C.S C.φ x u) (hy : Rd P C.w C.S C.φ y v) (he : aBin T (isK xo || isK yo) op t x y = some a) :
    SimV P G C g d h (do eqGuard op t xo yo u v; binOp op t u v) (.of a) := by
  have fin : ∀ r, (eqGuard op t xo yo u v).run P C.w = .ok () C.w → (binOp op t u v).run P C.w = .ok r C.w → Rd P C.w C.S C.φ a r → SimV P G C g d h (do eqGuard op t xo yo u v; binOp op t u v) (.of a) := fun r h1 h2 h3 =>
    .pure hI (v := r) (by simp [h1, h2]) h3
  unfold aBin at he
  split at he
  · simp only [Rd] at hx hy
    subst hx; subst hy
    split at he
    · obtain ⟨r, h1, h2⟩ := sim_shift (w := C.w) (S := C.S) (φ := C.φ) (P := P) (t := t) (k' := ‹IntKind›) (.inl rfl) he
      exact fin r (run_guard ⟨.inl (by simp), .inl (by simp)⟩) h1 h2
    · obtain ⟨r, h1, h2⟩ := sim_shift (w := C.w) (S := C.S) (φ := C.φ) (P := P) (t := t) (k' := ‹IntKind›) (.inr rfl) he
      exact fin r (run_guard ⟨.inl (by simp), .inl (by simp)⟩) h1 h2
    · split at he <;> try cases he
      rename_i n1 n2 hk
      subst hk
      obtain ⟨r, h1, h2⟩ := sim_arith (t := t) hI ⟨fun e => n1 e, fun e => n2 e⟩ he
      exact fin r (run_guard ⟨.inl (by simp), .inl (by simp)⟩) h1 h2
  · simp only [Rd] at hx hy
    subst hx; subst hy
    obtain ⟨r, h1, h2⟩ := sim_str (w := C.w) (S := C.S) (φ := C.φ) (P := P) (t := t) he
    exact fin r (run_guard ⟨.inl (by simp), .inl (by simp)⟩) h1 h2
  · have hx' := hx
    have hy' := hy
    simp only [Rd] at hx hy
    subst hx; subst hy
    split at he <;> try cases he
    all_goals
      simp only [Option.map_eq_some_iff] at he
      obtain ⟨r, hr, rfl⟩ := he
      have := run_aEq hT _ _ _ _ _ _ _ hx' hy' hr
      exact fin _ (run_guard ⟨.inl (by simp), .inl (by simp)⟩) (by simp [binOp, Op.equal, this]) rd_bool
  · have hx' := hx
    have hy' := hy
    simp only [Rd] at hx hy
    obtain ⟨us, rfl, hx⟩ := hx
    obtain ⟨vs, rfl, hy⟩ := hy
    split at he <;> try cases he
    all_goals
      split at he <;> try cases he
      rename_i hq
      simp only [Option.map_eq_some_iff] at he
      obtain ⟨r, hr, rfl⟩ := he
      have := run_aEq hT _ _ _ _ _ _ _ hx' hy' hr
      exact fin _ (run_guard ⟨.inl (by simp), .inr (.inr (hT.eqs t hq).2)⟩) (by simp [binOp, Op.equal, this]) rd_bool
  · have hx' := hx
    have hy' := hy
    simp only [Rd] at hx hy
    obtain ⟨u', rfl, hx⟩ := hx
    subst hy
    split at he <;> try cases he
    all_goals
      simp only [Option.map_eq_some_iff] at he
      obtain ⟨r, hr, rfl⟩ := he
      have := run_aEq hT _ _ _ _ _ _ _ hx' hy' hr
      exact fin _ (run_guard ⟨.inl (by simp), .inl (by simp)⟩) (by simp [binOp, Op.equal, this]) rd_bool
  · have hx' := hx
    have hy' := hy
    simp only [Rd] at hx hy
    subst hx; subst hy
    split at he <;> try cases he
    rename_i hk
    have hg := run_guardK (P := P) (op := op) (t := t) (w := C.w) hk
    split at he <;> try cases he
    all_goals
      simp only [Option.map_eq_some_iff] at he
      obtain ⟨r, hr, rfl⟩ := he
      have := run_aEq hT _ _ _ _ _ _ _ hx' hy' hr
      exact fin _ hg (by simp [binOp, Op.equal, this]) rd_bool
  · have hx' := hx
    simp only [Rd] at hx
    split at he <;> try cases he
    all_goals
      simp only [Option.map_eq_some_iff] at he
      obtain ⟨r, hr, rfl⟩ := he
      have := run_aEq hT _ _ _ _ _ _ _ hx' hy hr
      split at hx
      · obtain ⟨rfl, _⟩ := hx
        exact fin _ (run_guard ⟨.inl (by simp), .inl (by simp)⟩) (by simp [binOp, Op.equal, this]) rd_bool
      · rcases hx with ⟨_, _, _, rfl, _⟩ | ⟨_, rfl, _⟩ <;>
        exact fin _ (run_guard ⟨.inl (by simp), .inl (by simp)⟩) (by simp [binOp, Op.equal, this]) rd_bool
  · have hx' := hx
    simp only [Rd] at hx
    obtain ⟨_, _, _, rfl, _⟩ := hx
    split at he <;> try cases he
    all_goals
      simp only [Option.map_eq_some_iff] at he
      obtain ⟨r, hr, rfl⟩ := he
      have := run_aEq hT _ _ _ _ _ _ _ hx' hy hr
      exact fin _ (run_guard ⟨.inl (by simp), .inl (by simp)⟩) (by simp [binOp, Op.equal, this]) rd_bool
  · cases he

theorem sim_un (hI : Inv P G C g d) {op : UnOp} {x a : AV} {u : Value} (hx : Rd P C.w C.S C.φ x u) (he : aUn op x = some a) : SimV P G C g d h (Op.unary op u) (.of a) := by
  unfold aUn at he
  split at he <;> cases he <;> simp only [Rd] at hx <;> subst hx
  · exact .pure hI (v := .int _ _) (by simp [Op.unary, Op.intArith]) rd_int
  · exact .pure hI (v := .bool _) (by simp [Op.unary]) rd_bool

theorem sim_assert (hT : T.Ok P) (hI : Inv P G C g d) {x a : AV} {u : Value} {xt t : TypeId} {ok : Bool} (hx : Rd P C.w C.S C.φ x u) (he : aAssert T x t ok = some a) : SimV P G C g d h (Instr.typeAssert u xt t ok) (.of a) := by
  unfold aAssert at he
  split at he <;> try cases he
  · rename_i y t' v' hn hu
    simp only [Rd] at hx
    obtain ⟨w', rfl, hx⟩ := hx
    have hni : ∀ ms, y ≠ .interface ms := fun ms e => by subst e; exact hn ms rfl
    split at he
    · rename_i htt
      cases he
      refine .pure hI (v := if ok = true then .tuple #[w', .bool true] else w') ?_ ?_
      · simp only [Instr.typeAssert, Sem.run_bind, run_und hT hu, Result.andThen_ok]
        cases y <;> first | exact absurd rfl (hni _) | simp [htt]
      · cases ok
        · simpa using hx
        · simp only [if_true, Rd]
          exact ⟨[w', .bool true], rfl, .cons hx (.one rd_bool)⟩
    · rename_i htt
      split at he <;> try cases he
      rename_i hok
      simp only [Option.map_eq_some_iff] at he
      obtain ⟨z, hz, rfl⟩ := he
      obtain ⟨zv, hz1, hz2⟩ := run_zer hT hz C.w
      refine .pure hI (v := .tuple #[zv, .bool false]) ?_ ?_
      · simp only [Instr.typeAssert, Sem.run_bind, run_und hT hu, Result.andThen_ok]
        cases y <;> first | exact absurd rfl (hni _) | simp [htt, hok, hz1]
      · simp only [Rd]
        exact ⟨[zv, .bool false], rfl, .cons (toAV_rd zv z hz2) (.one rd_bool)⟩
  · rename_i y hn hu
    simp only [Rd] at hx
    subst hx
    have hni : ∀ ms, y ≠ .interface ms := fun ms e => by subst e; exact hn ms rfl
    split at he <;> try cases he
    rename_i hok
    simp only [Option.map_eq_some_iff] at he
    obtain ⟨z, hz, rfl⟩ := he
    obtain ⟨zv, hz1, hz2⟩ := run_zer hT hz C.w
    refine .pure hI (v := .tuple #[zv, .bool false]) ?_ ?_
    · simp only [Instr.typeAssert, Sem.run_bind, run_und hT hu, Result.andThen_ok]
      cases y <;> first | exact absurd rfl (hni _) | simp [hok, hz1]
    · simp only [Rd]
      exact ⟨[zv, .bool false], rfl, .cons (toAV_rd zv z hz2) (.one rd_bool)⟩

end Go.Vid

/-
Each operation of the abstract machine does what the model's operation does: those that turn memory.
-/
namespace Go.Vid

variable {P : Program} {G : Nat → Option (List AV)} {T : Tab} {C C' : Ctx} {g : Nat → Option AObj} {d h : Nat}

theorem RdL.cells' {w : World} {S : Nat → Nat → Prop} {φ : Nat → Option Nat} {a : AV} {v : Value} (h : Rd P w S φ a v) (hy : a ≠ .any) : RdL P w S φ a.cells v.cells.toList := by
  cases a with
  | any => exact absurd rfl hy
  | tup vs => 
    have h' := h
    simp only [Rd] at h
    obtain ⟨us, rfl, hr⟩ := h
    simp only [AV.cells, Value.cells]
    exact .one h'
  | _ => exact RdL.cells h (fun vs hv => by cases hv) (by simp)

theorem ne_any_of_one {x : AV} (h : x.cells.all AV.one = true) : x ≠ .any := by rintro rfl; simp [AV.cells, AV.one] at h
theorem ne_any_of_not {x : AV} (h : x.notAny = true) : x ≠ .any := by rintro rfl; simp [AV.notAny] at h
theorem toAV_ne {v : Value} {a : AV} (h : toAV v = some a) : a ≠ .any := by
  rintro rfl
  unfold toAV at h
  split at h <;> simp at h
theorem zer_ne {P : Program} {T : Tab} (hT : T.Ok P) {t : TypeId} {z : AV} (h : T.zer t = some z) : z ≠ .any := by
  obtain ⟨i, v, h1, h2, h3⟩ := hT.zer t z h
  exact toAV_ne h3

/-! a row of cells, some of which are stored anew -/
def putA (arr : Array Value) (off : Nat) (vs : List Value) : Array Value := ⟨arr.toList.take off ++ vs ++ arr.toList.drop (off + vs.length)⟩

theorem size_putA {arr : Array Value} {off : Nat} {vs : List Value} (h : off + vs.length ≤ arr.size) : (putA arr off vs).size = arr.size := by
  simp [putA]; omega

theorem length_putL {cs : List AV} {off : Nat} {vs : List AV} (h : off + vs.length ≤ cs.length) : (putL cs off vs).length = cs.length := by
  simp [putL]; omega

theorem setBlk_self {w : World} {b : Nat} {o : Obj} (h : w.heap[b]? = some o) : w.setBlk b o = w := by
  unfold World.setBlk
  have : w.heap.setIfInBounds b o = w.heap := by
    apply Array.ext_getElem?
    intro i
    by_cases hi : b = i
    · subst hi; rw [Array.getElem?_setIfInBounds]; simp [h]; have := (Array.getElem?_eq_some_iff.1 h).1; simp [this]
    · rw [Array.getElem?_setIfInBounds_ne hi]
  rw [this]

theorem setBlk_setBlk (w : World) (b : Nat) (o o' : Obj) : (w.setBlk b o).setBlk b o' = w.setBlk b o' := by
  unfold World.setBlk
  simp

theorem run_store1 {w : World} {b off : Nat} {arr : Array Value} {e : TypeId} {fz : Nat × Nat} {v : Value} (hb : w.heap[b]? = some (.cells arr e fz)) (hf : Unfrozen fz arr.size) (ho : off < arr.size) (hv : v.oneCell' = true) :
    (store ⟨b, off, none⟩ v).run P w = .ok () (w.setBlk b (.cells (arr.setIfInBounds off v) e fz)) := by
  rw [run_store P w ⟨b, off, none⟩ v _ hv]
  have hc : w.cell? ⟨b, off, none⟩ = some arr[off] := by simp [World.cell?, hb, ho]
  have hfz : w.frozen? ⟨b, off, none⟩ = false := by simp only [World.frozen?, hb]; exact hf.at off ho
  simp only [hc, hfz, Bool.false_eq_true, if_false]
  congr 1
  unfold World.setCell World.setBlk
  congr 1
  apply Array.ext_getElem?
  intro i
  rw [Array.getElem?_modify]
  by_cases hi : b = i
  · subst hi
    obtain ⟨hlt, h2⟩ := Array.getElem?_eq_some_iff.1 hb
    simp [hlt, h2]
  · rw [if_neg hi, Array.getElem?_setIfInBounds_ne hi]

theorem list_set_put (l : List Value) (p : Nat) (v : Value) (vs : List Value) (h : p < l.length) :
    (l.set p v).take (p + 1) ++ vs ++ (l.set p v).drop (p + 1 + vs.length) = l.take p ++ v :: vs ++ l.drop (p + (vs.length + 1)) := by
  have h1 : (l.set p v).take (p + 1) = l.take p ++ [v] := by
    rw [List.take_succ_eq_append_getElem (by simpa using h), List.getElem_set_self, List.take_set_of_le (Nat.le_refl p)]
  have h2 : (l.set p v).drop (p + 1 + vs.length) = l.drop (p + (vs.length + 1)) := by
    rw [List.drop_set_of_lt (by omega)]
    congr 1
    omega
  rw [h1, h2]
  simp

theorem run_storeCells {b off : Nat} {e : TypeId} {fz : Nat × Nat} : ∀ (vs : List Value) (i : Nat) (arr : Array Value) (w : World), w.heap[b]? = some (.cells arr e fz) → Unfrozen fz arr.size → off + i + vs.length ≤ arr.size →
    (∀ v ∈ vs, v.oneCell' = true) → (storeCells ⟨b, off, none⟩ vs i).run P w = .ok () (w.setBlk b (.cells (putA arr (off + i) vs) e fz))
  | [], i, arr, w, hb, _, _, _ => by
    have : putA arr (off + i) [] = arr := by simp [putA]
    simp only [storeCells, Sem.run_pure, this, setBlk_self hb]
  | v :: vs, i, arr, w, hb, hf, hl, hv => by
    simp only [List.length_cons] at hl
    have hlt := (Array.getElem?_eq_some_iff.1 hb).1
    have h1 := run_store1 (P := P) (off := off + i) (v := v) hb hf (by omega) (hv v (by simp))
    have h2 := run_storeCells (off := off) (e := e) (fz := fz) vs (i + 1) (arr.setIfInBounds (off + i) v) (w.setBlk b (.cells (arr.setIfInBounds (off + i) v) e fz)) (heap_setBlk_same _ _ hlt)
      (by simpa using hf) (by simp; omega) (fun u hu => hv u (by simp [hu]))
    simp only [storeCells, Sem.run_bind, addr_add, h1, Result.andThen_ok, h2, setBlk_setBlk]
    congr 3
    unfold putA
    congr 1
    rw [Array.toList_setIfInBounds, List.length_cons, show off + (i + 1) = off + i + 1 by omega]
    exact list_set_put arr.toList (off + i) v vs (by simp; omega)

theorem putL_rd {w : World} {S : Nat → Nat → Prop} {φ : Nat → Option Nat} {cs : List AV} {arr : Array Value} {off : Nat} {xs : List AV} {vs : List Value} (hr : RdL P w S φ cs (arr.toList.take cs.length)) (hl : cs.length ≤ arr.size)
    (hx : RdL P w S φ xs vs) (ho : off + xs.length ≤ cs.length) : RdL P w S φ (putL cs off xs) ((putA arr off vs).toList.take (putL cs off xs).length) := by
  rw [length_putL ho]
  have hxl := hx.length
  have e : (putA arr off vs).toList.take cs.length = (arr.toList.take cs.length).take off ++ vs ++ (arr.toList.take cs.length).drop (off + xs.length) := by
    unfold putA
    apply List.ext_getElem?
    intro j
    simp only [List.append_assoc]
    rw [List.getElem?_take, List.getElem?_append, List.getElem?_append, List.getElem?_append, List.getElem?_append]
    simp only [List.length_take, Array.length_toList]
    have e1 : min off arr.size = off := by omega
    have e2 : min off (min cs.length arr.size) = off := by omega
    rw [e1, e2, hxl]
    simp only [List.getElem?_take, List.getElem?_drop]
    by_cases h1 : j < cs.length <;> by_cases h2 : j < off <;> by_cases h3 : j - off < vs.length <;> simp [h1, h2, h3] <;> first | omega | (intro h; omega) | skip
  rw [e]
  exact ((hr.take off).append hx).append (hr.drop _)

theorem putL_one {cs : List AV} {off : Nat} {xs : List AV} (h1 : ∀ a ∈ cs, a.one = true) (h2 : ∀ a ∈ xs, a.one = true) : ∀ a ∈ putL cs off xs, a.one = true := by
  intro a ha
  simp only [putL, List.mem_append] at ha
  rcases ha with (ha | ha) | ha
  · exact h1 a (List.mem_of_mem_take ha)
  · exact h2 a ha
  · exact h1 a (List.mem_of_mem_drop ha)

/-- Cells stored into an own object. -/
theorem sim_put (hI : Inv P G C g d) {id b off : Nat} {cs xs : List AV} {e : TypeId} {gr : Bool} {vs : List Value} (hg : g id = some (.cells cs e gr)) (hb : C.φ id = some b)
    (hx : RdL P C.w C.S C.φ xs vs) (ho : off + xs.length ≤ cs.length) (h1 : ∀ a ∈ xs, a.one = true) :
    ∃ C' : Ctx, (storeCells ⟨b, off, none⟩ vs).run P C.w = .ok () C'.w ∧ C'.S = C.S ∧ Ext C C' ∧ Inv P G C' (upd g id (some (.cells (putL cs off xs) e gr))) d ∧ C'.φ = C.φ := by
  obtain ⟨b', hb1, hb2, arr, fz, q1, q2, q3, q4, q5, q6⟩ := hI.obj id _ hg
  rw [hb] at hb1; cases hb1
  have hxl := hx.length
  have hs := size_putA (arr := arr) (off := off) (vs := vs) (by omega)
  refine ⟨C.turn id b (.cells (putA arr off vs) e fz), ?_, rfl, ext_turn hI hg hb q1 hs (.inl rfl), ?_, ?_⟩
  · have := run_storeCells (P := P) (off := off) vs 0 arr C.w q1 q2 (by omega) (hx.one_all h1)
    simpa [Ctx.turn] using this
  · have := inv_turn (arr' := putA arr off vs) (cs := putL cs off xs) (gr := gr) hI hg hb q1 q2 hs (.inl rfl) (by rw [length_putL ho]; exact q3) (fun hh => by rw [length_putL ho]; exact q4 hh)
      (putL_rd q5 q3 hx ho) (putL_one q6 h1)
    refine this.sub fun i o hi => ?_
    by_cases e1 : i = id
    · subst e1; simpa using hi
    · rw [upd_other _ _ e1] at hi; rw [upd_other _ _ e1, upd_other _ _ e1]; exact hi
  · funext i
    by_cases e1 : i = id
    · subst e1; simp [Ctx.turn, hb]
    · simp [Ctx.turn, upd_other _ _ e1]

theorem sim_store (hT : T.Ok P) (hI : Inv P G C g d) {t : TypeId} {p x : AV} {u v : Value} {e : Eff} (hp : Rd P C.w C.S C.φ p u) (hx : Rd P C.w C.S C.φ x v) (he : aStore T g t p x = some e) :
    Sim P G C g d h (do Instr.storeAt t u v; pure .skip) e := by
  intro hf
  unfold aStore at he
  split at he <;> try cases he
  rename_i id off
  split at he <;> try cases he
  rename_i cs e' gr hg
  split at he <;> cases he
  rename_i hc
  obtain ⟨c1, c2, c3⟩ := hc
  simp only [Rd] at hp
  obtain ⟨b, hb, rfl⟩ := hp
  have hxc := RdL.cells' hx (ne_any_of_one c2)
  obtain ⟨C', r1, r2, r3, r4, r5⟩ := sim_put hI hg hb hxc c3 (by simpa [List.all_eq_true] using c2)
  refine ⟨undef, C', .inr ⟨?_, rfl⟩, r2, r3, by simpa [applyUps] using r4, ?_, fun i => .inl (by rw [r5])⟩
  · have hl := hxc.length
    have hsz : v.cells.size = x.cells.length := by simpa using hl.symm
    simp [Instr.storeAt, Instr.sureAddr, storeVar, run_siz hT c1, hsz, r1]
  · simp only [AV.undef, Rd, undef]; exact ⟨[], rfl, .nil⟩

theorem sim_new (hI : Inv P G C g d) {e : TypeId} {x : AV} {v : Value} {ef : Eff} (hx : Rd P C.w C.S C.φ x v) (he : aNew h e x = some ef) : SimV P G C g d h (do pure (.pointer (some (← newVar e v)))) ef := by
  intro hf
  unfold aNew at he
  split at he <;> cases he
  rename_i h1
  have hxc := RdL.cells' hx (ne_any_of_one h1)
  have hfr : C.φ h = none := by simpa using hf 0 (by simp)
  have hl := hxc.length
  have hz : v.cells.toList.take x.cells.length = v.cells.toList := List.take_of_length_le (Nat.le_of_eq hl.symm)
  refine ⟨.pointer (some ⟨C.w.heap.size, 0, none⟩), C.alloc h (.cells v.cells e), by simp [newVar, newRow, Ctx.alloc], rfl, ext_alloc _ hI hfr,
    inv_alloc hI hfr (Nat.le_of_eq hl) (fun _ => hl) (by rw [hz]; exact hxc) (by simpa [List.all_eq_true] using h1), ?_, fun i => ?_⟩
  · simp only [Rd]; exact ⟨C.w.heap.size, by simp [Ctx.alloc], rfl⟩
  · by_cases e1 : i = h
    · subst e1; exact .inr ⟨Nat.le_refl _, by simp⟩
    · exact .inl (by simp [Ctx.alloc, upd_other _ _ e1])

end Go.Vid

/-
Each operation of the abstract machine does what the model's operation does: structs and slices that are built, made, appended to, copied into.
-/
namespace Go.Vid

variable {P : Program} {G : Nat → Option (List AV)} {T : Tab} {C C' : Ctx} {g : Nat → Option AObj} {d h : Nat}

theorem foldl_put (off : Nat) : ∀ (l : List Value) (k : Nat) (cells : Array Value), off + k + l.length ≤ cells.size →
    ((l.zipIdx k).foldl (fun cs (x : Value × Nat) => cs.setIfInBounds (off + x.2) x.1) cells).toList = cells.toList.take (off + k) ++ l ++ cells.toList.drop (off + k + l.length)
  | [], k, cells, _ => by simp
  | v :: l, k, cells, h => by
    simp only [List.length_cons] at h
    simp only [List.zipIdx_cons, List.foldl_cons]
    rw [foldl_put off l (k + 1) _ (by simp; omega)]
    rw [Array.toList_setIfInBounds, List.length_cons, show off + (k + 1) = off + k + 1 by omega]
    exact list_set_put cells.toList (off + k) v l (by simp; omega)

theorem fill_put (off : Nat) (v : Value) (cells : Array Value) (h : off + v.cells.size ≤ cells.size) :
    v.cells.zipIdx.foldl (fun cs (x : Value × Nat) => cs.setIfInBounds (off + x.2) x.1) cells = putA cells off v.cells.toList := by
  apply Array.ext'
  rw [← Array.foldl_toList, Array.toList_zipIdx]
  have := foldl_put off v.cells.toList 0 cells (by simpa using h)
  simpa [putA] using this

/-- Numbered parts, read one by one. -/
def RdP (P : Program) (w : World) (S : Nat → Nat → Prop) (φ : Nat → Option Nat) : List (Nat × AV) → List (Nat × Value) → Prop
  | [], l => l = []
  | (i, a) :: r, l => ∃ v vs, l = (i, v) :: vs ∧ Rd P w S φ a v ∧ RdP P w S φ r vs

theorem rdL_put {w : World} {S : Nat → Nat → Prop} {φ : Nat → Option Nat} {cs : List AV} {arr : Array Value} {off : Nat} {xs : List AV} {vs : List Value} (hr : RdL P w S φ cs arr.toList)
    (hx : RdL P w S φ xs vs) (ho : off + xs.length ≤ cs.length) : RdL P w S φ (putL cs off xs) (putA arr off vs).toList := by
  have hl := hr.length
  have e : arr.toList.take cs.length = arr.toList := List.take_of_length_le (Nat.le_of_eq hl.symm)
  have h2 := putL_rd (P := P) (arr := arr) (by rw [e]; exact hr) (by simpa using Nat.le_of_eq hl) hx ho
  have hxl := hx.length
  rwa [List.take_of_length_le (by rw [length_putL ho, Array.length_toList, size_putA (by simp at hl; omega), hl]; simp)] at h2

theorem fill_rd {w : World} {S : Nat → Nat → Prop} {φ : Nat → Option Nat} {place : Nat → Option (Nat × Nat)} : ∀ (ps : List (Nat × AV)) (vs : List (Nat × Value)) (cs cs' : List AV) (arr : Array Value),
    RdP P w S φ ps vs → RdL P w S φ cs arr.toList → aFill place cs ps = some cs' → ∃ arr', Instr.fill place arr vs = some arr' ∧ RdL P w S φ cs' arr'.toList
  | [], vs, cs, cs', arr, h1, h2, h3 => by
    simp only [RdP] at h1
    simp only [aFill, Option.some.injEq] at h3
    subst h1; subst h3
    exact ⟨arr, rfl, h2⟩
  | (i, a) :: ps, vs, cs, cs', arr, h1, h2, h3 => by
    simp only [RdP] at h1
    obtain ⟨v, vs, rfl, hv, hvs⟩ := h1
    simp only [aFill] at h3
    split at h3 <;> try cases h3
    rename_i off size hp
    split at h3 <;> try cases h3
    rename_i hc
    have hxc := RdL.cells' hv (ne_any_of_not hc.2.2)
    have l1 := hxc.length
    have l2 := h2.length
    simp only [Array.length_toList] at l1 l2
    obtain ⟨arr', h4, h5⟩ := fill_rd ps vs _ cs' (putA arr off v.cells.toList) hvs (rdL_put h2 hxc hc.2.1) h3
    refine ⟨arr', ?_, h5⟩
    simp only [Instr.fill, hp]
    have hcond : (v.cells.size ≠ size || off + v.cells.size > arr.size) = false := by simp; omega
    have hput := fill_put off v arr (by omega)
    simp only [ne_eq, gt_iff_lt] at hcond ⊢
    rw [if_neg (by simp at hcond ⊢; omega)]
    rw [← h4]
    congr 1

theorem places_run (hT : T.Ok P) : ∀ (fs : List Field) (r : List (Nat × Nat)), placesM T fs = some r → fs.mapM (fun f => (P.info? f.type).map fun i => (f.offset, i.size)) = some r
  | [], r, h => by simp only [placesM, Option.some.injEq] at h; subst h; simp
  | f :: fs, r, h => by
    simp only [placesM] at h
    split at h <;> cases h
    rename_i n rest h1 h2
    obtain ⟨i, hi, rfl⟩ := hT.siz _ _ h1
    simp [List.mapM_cons, hi, places_run hT fs rest h2]

theorem rd_zero (hT : T.Ok P) {t : TypeId} {z : AV} (h : T.zer t = some z) (w : World) (S : Nat → Nat → Prop) (φ : Nat → Option Nat) : ∃ i v, P.info? t = some i ∧ i.zero = some v ∧ Rd P w S φ z v := by
  obtain ⟨i, v, h1, h2, h3⟩ := hT.zer t z h
  exact ⟨i, v, h1, h2, toAV_rd v z h3⟩

theorem sim_build (hT : T.Ok P) (hI : Inv P G C g d) {t : TypeId} {ps : List (Nat × AV)} {vs : List (Nat × Value)} {a : AV} (hp : RdP P C.w C.S C.φ ps vs) (he : aBuild T t ps = some a) :
    SimV P G C g d h (Instr.build t ⟨vs⟩) (.of a) := by
  unfold aBuild at he
  split at he <;> try cases he
  · rename_i fields z hu hz
    split at he <;> try cases he
    rename_i places hpl
    simp only [Option.map_eq_some_iff] at he
    obtain ⟨cs, hcs, rfl⟩ := he
    obtain ⟨i, v, hi, hv, hr⟩ := rd_zero hT hz C.w C.S C.φ
    obtain ⟨arr, ha, hra⟩ := fill_rd _ _ _ _ _ hp (RdL.cells' hr (zer_ne hT hz)) hcs
    refine .pure hI (v := .agg arr) (run_build C.w t ⟨vs⟩ arr ?_) ?_
    · simp only [Program.built, hi, hT.und t _ hu, hv, places_run hT _ _ hpl]
      have : (fun i : Nat => places.toArray[i]?) = fun i : Nat => places[i]? := by funext i; simp
      rw [this]; exact ha
    · simp only [Rd]; exact ⟨arr.toList, rfl, hra⟩
  · rename_i n e z hu hz
    split at he <;> try cases he
    rename_i s hs
    simp only [Option.map_eq_some_iff] at he
    obtain ⟨cs, hcs, rfl⟩ := he
    obtain ⟨i, v, hi, hv, hr⟩ := rd_zero hT hz C.w C.S C.φ
    obtain ⟨arr, ha, hra⟩ := fill_rd _ _ _ _ _ hp (RdL.cells' hr (zer_ne hT hz)) hcs
    obtain ⟨ie, hie, rfl⟩ := hT.siz _ _ hs
    refine .pure hI (v := .agg arr) (run_build C.w t ⟨vs⟩ arr ?_) ?_
    · simp only [Program.built, hi, hT.und t _ hu, hv, hie]; exact ha
    · simp only [Rd]; exact ⟨arr.toList, rfl, hra⟩

theorem madeRow_rd {w : World} {S : Nat → Nat → Prop} {φ : Nat → Option Nat} {zs : List AV} {vz : Array Value} (hr : RdL P w S φ zs vz.toList) (h0 : 0 < zs.length) (n : Nat) :
    RdL P w S φ (madeRow zs n) ((Array.range n).map (vz[· % vz.size]!)).toList := by
  have hl := hr.length
  simp only [Array.length_toList] at hl
  refine .mk (by simp [madeRow]) fun i a v ha hv => ?_
  simp only [madeRow, List.getElem?_map] at ha
  simp only [Array.getElem?_toList, Array.getElem?_map] at hv
  by_cases hi : i < n
  · simp [hi] at ha hv
    subst ha; subst hv
    have hm : i % zs.length < zs.length := Nat.mod_lt _ h0
    obtain ⟨u, hu, hru⟩ := hr.get (i := i % zs.length) (a := zs.getD (i % zs.length) .undef) (by simp [hm])
    rw [hl] at hu
    have hm' : i % vz.size < vz.size := hl ▸ hm
    simp only [Array.getElem?_toList, Array.getElem?_eq_getElem hm', Option.some.injEq] at hu
    simpa [hm', hu] using hru
  · simp [hi] at ha

theorem madeRow_one {zs : List AV} (h1 : ∀ a ∈ zs, a.one = true) (h0 : 0 < zs.length) (n : Nat) : ∀ a ∈ madeRow zs n, a.one = true := by
  intro a ha
  simp only [madeRow, List.mem_map, List.mem_range] at ha
  obtain ⟨i, _, rfl⟩ := ha
  have hm : i % zs.length < zs.length := Nat.mod_lt _ h0
  simp only [List.getD_eq_getElem?_getD, List.getElem?_eq_getElem hm, Option.getD_some]
  exact h1 _ (List.getElem_mem hm)

/-- A new row. -/
theorem sim_row (hI : Inv P G C g d) (hf : C.φ h = none) {cs : List AV} {arr : Array Value} {e : TypeId} {gr : Bool} (hl : cs.length ≤ arr.size) (hg : gr = false → cs.length = arr.size) (hr : RdL P C.w C.S C.φ cs (arr.toList.take cs.length))
    (h1 : ∀ a ∈ cs, a.one = true) : (newRow e arr).run P C.w = .ok ⟨C.w.heap.size, 0, none⟩ (C.alloc h (.cells arr e)).w ∧ (C.alloc h (.cells arr e)).S = C.S ∧ Ext C (C.alloc h (.cells arr e)) ∧
      Inv P G (C.alloc h (.cells arr e)) (upd g h (some (.cells cs e gr))) d ∧ (C.alloc h (.cells arr e)).φ h = some C.w.heap.size ∧ (∀ id, (C.alloc h (.cells arr e)).φ id = C.φ id ∨ (h ≤ id ∧ id < h + 1)) :=
  ⟨by simp [newRow, Ctx.alloc], rfl, ext_alloc _ hI hf, inv_alloc hI hf hl hg hr h1, by simp [Ctx.alloc], fun i => by
    by_cases e1 : i = h
    · subst e1; exact .inr ⟨Nat.le_refl _, by omega⟩
    · exact .inl (by simp [Ctx.alloc, upd_other _ _ e1])⟩

theorem sim_buildSlice (hT : T.Ok P) (hI : Inv P G C g d) {t : TypeId} {n : Nat} {ps : List (Nat × AV)} {vs : List (Nat × Value)} {ef : Eff} (hp : RdP P C.w C.S C.φ ps vs) (he : aBuildSlice T h t n ps = some ef) :
    SimV P G C g d h (Instr.buildSlice t n ⟨vs⟩) ef := by
  intro hf
  unfold aBuildSlice at he
  split at he <;> try cases he
  rename_i e hu
  split at he <;> try cases he
  rename_i s z hs hz
  split at he <;> try cases he
  rename_i hc
  obtain ⟨c1, c2, c3⟩ := hc
  split at he <;> try cases he
  rename_i cs hcs
  split at he <;> cases he
  rename_i h1
  have hfr : C.φ h = none := by simpa using hf 0 (by simp)
  obtain ⟨z', hz1, hz2⟩ := run_zer hT hz C.w
  have hzr : RdL P C.w C.S C.φ z.cells z'.cells.toList := RdL.cells' (toAV_rd _ _ hz2) (toAV_ne hz2)
  have hmr := madeRow_rd hzr (by omega) (n * s)
  obtain ⟨arr, ha, hra⟩ := fill_rd _ _ _ _ _ hp hmr hcs
  have hl := hra.length
  simp only [Array.length_toList] at hl
  obtain ⟨q1, q2, q3, q4, q5, q6⟩ := sim_row (e := e) (gr := false) hI hfr (Nat.le_of_eq hl) (fun _ => hl) (by rw [List.take_of_length_le (by simp [hl])]; exact hra) (by simpa [List.all_eq_true] using h1)
  refine ⟨.slice (some ⟨C.w.heap.size, 0, none⟩) n n, _, ?_, q2, q3, by simpa [applyUps] using q4, ?_, q6⟩
  · have hle : ¬ (n * s > 2 ^ 24) := by omega
    have hzl := hzr.length
    simp only [Array.length_toList] at hzl
    by_cases h0 : n * s = 0
    · have hz0 : ((Array.range (n * s)).map ((#[] : Array Value)[· % (#[] : Array Value).size]!)) = (Array.range (n * s)).map (z'.cells[· % z'.cells.size]!) := by rw [h0]; simp
      simp only [Instr.buildSlice, Sem.run_bind, run_und hT hu, Result.andThen_ok, run_siz hT hs, if_neg hle, Sem.run_pure, if_pos h0]
      rw [hz0, ha]
      simp [q1]
    · simp only [Instr.buildSlice, Sem.run_bind, run_und hT hu, Result.andThen_ok, run_siz hT hs, if_neg hle, Sem.run_pure, if_neg h0, hz1]
      rw [ha]
      simp [q1]
  · simp only [Rd]
    exact ⟨C.w.heap.size, n, q5, rfl, Nat.le_refl _, rfl⟩

theorem maxRoom_eq : maxRoom = 70368744177664 := by decide

theorem sim_makeSlice (hT : T.Ok P) (hI : Inv P G C g d) {t : TypeId} {x y : AV} {u v : Value} {ef : Eff} (hx : Rd P C.w C.S C.φ x u) (hy : Rd P C.w C.S C.φ y v) (he : aMakeSlice T h t x y = some ef) :
    SimV P G C g d h (Instr.makeSlice t u v) ef := by
  intro hf
  unfold aMakeSlice at he
  split at he <;> try cases he
  rename_i k1 l k2 c
  simp only [Rd] at hx hy
  subst hx; subst hy
  split at he <;> try cases he
  rename_i e hu
  split at he <;> try cases he
  rename_i s b z hs hb hz
  split at he <;> cases he
  rename_i hc
  obtain ⟨c1, c2, c3, c4, c5, c6⟩ := hc
  rw [maxRoom_eq] at c3 c4
  have hfr : C.φ h = none := by simpa using hf 0 (by simp)
  obtain ⟨z', hz1, hz2⟩ := run_zer hT hz C.w
  have hzr : RdL P C.w C.S C.φ z.cells z'.cells.toList := RdL.cells' (toAV_rd _ _ hz2) (toAV_ne hz2)
  have hmr := madeRow_rd hzr (by omega) (c.toNat * (s + 1))
  obtain ⟨i, hi, hib⟩ := hT.byt _ _ hb
  have hl := hmr.length
  simp only [Array.length_toList] at hl
  have hone : ∀ a ∈ z.cells, a.one = true := by simpa [List.all_eq_true] using c6
  obtain ⟨q1, q2, q3, q4, q5, q6⟩ := sim_row (e := e) (gr := false) hI hfr (Nat.le_of_eq hl) (fun _ => hl) (by rw [List.take_of_length_le (by simp [hl])]; exact hmr) (madeRow_one hone (by omega) _)
  refine ⟨.slice (some ⟨C.w.heap.size, 0, none⟩) l.toNat c.toNat, _, ?_, q2, q3, by simpa [applyUps] using q4, ?_, q6⟩
  · have hwl : IntKind.i64.wrap l = l := by simp [IntKind.wrap, IntKind.bits, IntKind.signed]; omega
    have hwc : IntKind.i64.wrap c = c := by simp [IntKind.wrap, IntKind.bits, IntKind.signed]; omega
    have hbc : (b : Int) * c ≤ 70368744177664 := by
      have h1 : (c.toNat : Int) = c := by omega
      have h2 : ((c.toNat * b : Nat) : Int) = (b : Int) * c := by rw [Int.natCast_mul, h1, Int.mul_comm]
      have h0 : ((c.toNat * b : Nat) : Int) ≤ ((70368744177664 : Nat) : Int) := Int.ofNat_le.2 c4
      rw [h2] at h0
      exact h0
    have hzs : z'.cells.size = s + 1 := by have := hzr.length; simp only [Array.length_toList] at this; omega
    have t1 : (decide (c < 0) || decide (((i.bytes : Nat) : Int) * c > 2 ^ 48)) = false := by
      rw [hib]; simp only [Bool.or_eq_false_iff, decide_eq_false_iff_not]; omega
    simp only [Instr.makeSlice, Sem.run_bind, run_und hT hu, Result.andThen_ok, asInt, asIntOf, Sem.run_pure, typeInfo, run_program, hi, hwl, hwc, t1, Bool.false_or, run_askRoom, run_siz hT hs]
    rw [if_neg (by simp; omega)]
    by_cases h0 : c.toNat * (s + 1) = 0
    · have hz0 : ((Array.range (c.toNat * (s + 1))).map ((#[] : Array Value)[· % (#[] : Array Value).size]!)) = (Array.range (c.toNat * (s + 1))).map (z'.cells[· % z'.cells.size]!) := by rw [h0]; simp
      simp only [Sem.run_pure, Sem.run_bind, Result.andThen_ok, run_askRoom, run_siz hT hs, if_pos h0]
      rw [hz0]
      simp [q1]
    · simp only [Sem.run_pure, Sem.run_bind, Result.andThen_ok, run_askRoom, run_siz hT hs, if_neg h0, hz1]
      simp [q1]
  · simp only [Rd]
    exact ⟨C.w.heap.size, c.toNat, q5, rfl, by omega, rfl⟩

end Go.Vid

/-
Each operation of the abstract machine does what the model's operation does: append, copy, bytes to string; and all operations in one theorem.
-/
namespace Go.Vid

variable {P : Program} {G : Nat → Option (List AV)} {T : Tab} {C C' : Ctx} {g : Nat → Option AObj} {d h : Nat}

theorem src_rd (hI : Inv P G C g d) {sz n : Nat} {x : AV} {v : Value} {cs : List AV} {rd : List Nat} (hx : Rd P C.w C.S C.φ x v) (hs : srcCells g sz x = some (n, cs, rd)) :
    (∀ w', (Builtin.lenOf v).run P w' = .ok n w') ∧ n * sz ≤ cs.length ∧ ∃ vs, RdL P C.w C.S C.φ cs vs ∧ (∀ a ∈ cs, a.one = true) ∧
      ∀ m, m ≤ n → ∀ w', w'.heap = C.w.heap → (Builtin.firstCells sz m v).run P w' = .ok (vs.take (m * sz)).toArray w' := by
  have row : ∀ (b off len c : Nat) (cs : List AV), v = .slice (some ⟨b, off, none⟩) len c → RdAt P C.w C.S C.φ cs b off → len * sz ≤ cs.length →
      (∀ w', (Builtin.lenOf v).run P w' = .ok len w') ∧ len * sz ≤ cs.length ∧ ∃ vs, RdL P C.w C.S C.φ cs vs ∧ (∀ a ∈ cs, a.one = true) ∧
      ∀ m, m ≤ len → ∀ w', w'.heap = C.w.heap → (Builtin.firstCells sz m v).run P w' = .ok (vs.take (m * sz)).toArray w' := by
    rintro b off len c cs rfl hr hl
    obtain ⟨vs, h1, h2, h3⟩ := hr.list
    refine ⟨fun w' => by simp [Builtin.lenOf], hl, vs, h1, h2, fun m hm w' hw => ?_⟩
    have hvl := h1.length
    have hms : m * sz ≤ len * sz := Nat.mul_le_mul_right sz hm
    refine run_firstCells_some w' sz m ⟨b, off, none⟩ len c (vs.take (m * sz)) (by simp; omega) fun j u hj => ?_
    rw [addr_add]
    rw [List.getElem?_take] at hj
    split at hj
    · have := h3 j u hj
      simpa [World.cell?, hw] using this
    · cases hj
  cases x <;> simp only [srcCells] at hs <;> try cases hs
  case str s =>
    split at hs <;> cases hs
    rename_i hsz
    subst hsz
    simp only [Rd] at hx
    subst hx
    refine ⟨fun w' => by simp [Builtin.lenOf], by simp, s.data.toList.map fun b => Value.int .u8 b.toNat, .mk (by simp) fun i a v ha hv => ?_, ?_, fun m hm w' _ => ?_⟩
    · simp only [List.getElem?_map] at ha hv
      cases hb : s.data.toList[i]? with
      | none => simp [hb] at ha
      | some b => simp [hb] at ha hv; subst ha; subst hv; exact rd_int
    · intro a ha
      simp only [List.mem_map] at ha
      obtain ⟨b, _, rfl⟩ := ha
      rfl
    · simp only [Builtin.firstCells, Sem.run_pure]
      congr 1
      apply Array.ext'
      simp only [ByteArray.data_extract, Array.toList_map, Array.toList_extract, Nat.mul_one]
      rw [List.extract_eq_take_drop]
      simp [List.map_take]
  case lsl nl k cs' len cap =>
    split at hs <;> cases hs
    rename_i hl
    simp only [Rd] at hx
    cases nl
    · simp only [Bool.false_eq_true, if_false] at hx
      rcases hx with ⟨b, off, c, hv, _, hr, _⟩ | ⟨ad, rfl, rfl, rfl, _⟩
      · exact row b off _ c _ hv hr.out hl
      · refine ⟨fun w' => by simp [Builtin.lenOf], by simp, [], .nil, by simp, fun m hm w' _ => ?_⟩
        obtain rfl : m = 0 := by omega
        simpa using run_firstCells_some w' sz 0 ad 0 0 [] (by simp) (by simp)
    · simp only [if_true] at hx
      obtain ⟨rfl, rfl, rfl, _⟩ := hx
      refine ⟨fun w' => by simp [Builtin.lenOf], by simp, [], .nil, by simp, fun m hm w' _ => ?_⟩
      simp [Builtin.firstCells]
  case rsl id off len cap =>
    cases hg : g id with
    | none => simp [hg] at hs
    | some o =>
      cases o with
      | cells cs' e gr =>
        simp only [hg] at hs
        split at hs <;> cases hs
        rename_i hl
        simp only [Rd] at hx
        obtain ⟨b, c, hb, hv, _⟩ := hx
        obtain ⟨b', hb', _, ho⟩ := hI.obj id _ hg
        rw [hb] at hb'; cases hb'
        exact row b off _ c _ hv (ho.at off) (by rw [List.length_drop]; omega)

/-- append, where there is room. -/
theorem run_append_fits {t u ty e : TypeId} {du : TypeDesc} {sz n b off sLen sCap : Nat} {v : Value} {new : Array Value} {w w' : World} (ht : P.underlying t = some (.slice e)) (hu : P.underlying u = some du) (hdu : ∀ k, du ≠ .int k)
    (hs : (sizeOf e).run P w = .ok sz w) (hl : (Builtin.lenOf v).run P w = .ok n w) (hn : (Builtin.firstCells sz n v).run P w = .ok new w) (hle : sLen + n ≤ sCap)
    (hst : (storeCells ⟨b, off + sLen * sz, none⟩ new.toList).run P w = .ok () w') :
    (Builtin.append_ ⟨[t, u]⟩ ty ⟨[.slice (some ⟨b, off, none⟩) sLen sCap, v]⟩).run P w = .ok (.slice (some ⟨b, off, none⟩) (sLen + n) sCap) w' := by
  have hz : (match du with | .int _ => true | _ => false) = false := by cases du <;> first | rfl | exact absurd rfl (hdu _)
  simp [Builtin.append_, run_underlying ht, run_underlying hu, hs, hl, hn, hle, addr_add, hst]

/-- append, where there is none. -/
theorem run_append_new {t u ty e : TypeId} {du : TypeDesc} {sz n sLen sCap by_ : Nat} {i : TypeInfo} {base : Option Addr} {v z : Value} {old new : Array Value} {w : World} (ht : P.underlying t = some (.slice e)) (hu : P.underlying u = some du) (hdu : ∀ k, du ≠ .int k)
    (hi : P.info? e = some i) (his : i.size = sz) (hib : i.bytes = by_) (hiz : i.zero = some z) (hl : (Builtin.lenOf v).run P w = .ok n w) (hle : sCap < sLen + n)
    (ho : (Builtin.firstCells sz sLen (.slice base sLen sCap)).run P w.drew = .ok old w.drew) (hn : (Builtin.firstCells sz n v).run P w.drew = .ok new w.drew)
    (hb1 : (sLen + n) * by_ ≤ maxRoom) (hb2 : sLen + n ≤ maxRoom) :
    (Builtin.append_ ⟨[t, u]⟩ ty ⟨[.slice base sLen sCap, v]⟩).run P w =
      .ok (.slice (some ⟨w.heap.size, 0, none⟩) (sLen + n) (grownCap w (sLen + n) sCap e)) (w.drew.alloc (.cells (old ++ new ++ Builtin.zeroCells z.cells (grownCap w (sLen + n) sCap e - (sLen + n))) e)) := by
  have hz : (match du with | .int _ => true | _ => false) = false := by cases du <;> first | rfl | exact absurd rfl (hdu _)
  rw [maxRoom_eq] at hb1 hb2
  have hnext := nextslicecap_le hle
  have h48 : ¬ (281474976710656 < Builtin.nextslicecap (sLen + n) sCap * i.bytes) := by
    have : Builtin.nextslicecap (sLen + n) sCap * i.bytes ≤ 2 * (sLen + n) * i.bytes := Nat.mul_le_mul_right _ hnext
    rw [hib] at this ⊢
    rw [Nat.mul_assoc] at this
    omega
  have h63 : ¬ (9223372036854775807 < ((sLen : Int) + (n : Int))) := by omega
  have hn' : ¬ (sLen + n ≤ sCap) := by omega
  subst his
  simp [Builtin.append_, run_underlying ht, run_underlying hu, sizeOf, typeInfo, zeroValue, hi, hiz, hl, hn', h63, h48, Question.forced, ho, hn, newRow, grownCap]

theorem grownCap_ge' (w : World) (need old : Nat) (e : TypeId) : need ≤ grownCap w need old e := grownCap_ge w need old e

theorem size_zeroCells' (z : Array Value) (n : Nat) : (Builtin.zeroCells z n).size = n * z.size := by simp [Builtin.zeroCells]

/-- What an append that makes a new row leaves. -/
theorem sim_grown (hT : T.Ok P) (hI : Inv P G C g d) {g' : Nat → Option AObj} (hg' : ∀ i o, g' i = some o → g i = some o) (hf : C.φ h = none) {t u ty e : TypeId} {du : TypeDesc} {sz n sLen sCap by_ : Nat} {base : Option Addr} {v : Value} {z : AV}
    {oldA newA : List AV} {old new : List Value}
    (ht : T.und t = some (.slice e)) (hu : T.und u = some du) (hdu : ∀ k, du ≠ .int k) (hs : T.siz e = some sz) (hb : T.byt e = some by_) (hz : T.zer e = some z) (hzl : z.cells.length = sz)
    (hl : (Builtin.lenOf v).run P C.w = .ok n C.w) (hle : sCap < sLen + n)
    (ho : (Builtin.firstCells sz sLen (.slice base sLen sCap)).run P C.w.drew = .ok ⟨old⟩ C.w.drew) (hn : (Builtin.firstCells sz n v).run P C.w.drew = .ok ⟨new⟩ C.w.drew)
    (hb1 : (sLen + n) * by_ ≤ maxRoom) (hb2 : sLen + n ≤ maxRoom) (hro : RdL P C.w C.S C.φ oldA old) (hrn : RdL P C.w C.S C.φ newA new) (hlo : oldA.length = sLen * sz) (hln : newA.length = n * sz)
    (h1 : ∀ a ∈ oldA, a.one = true) (h2 : ∀ a ∈ newA, a.one = true) :
    ∃ v' C', (Builtin.append_ ⟨[t, u]⟩ ty ⟨[.slice base sLen sCap, v]⟩).run P C.w = .ok v' C'.w ∧ C'.S = C.S ∧ Ext C C' ∧ Inv P G C' (upd g' h (some (.cells (oldA ++ newA) e true))) d ∧
      Rd P C'.w C'.S C'.φ (.rsl h 0 (sLen + n) none) v' ∧ (∀ id, C'.φ id = C.φ id ∨ (h ≤ id ∧ id < h + 1)) := by
  obtain ⟨i, hi, his⟩ := hT.siz _ _ hs
  obtain ⟨i2, hi2, hib⟩ := hT.byt _ _ hb
  obtain ⟨i3, zv, hi3, hiz, hzr⟩ := rd_zero hT hz C.w C.S C.φ
  rw [hi] at hi2 hi3; cases hi2; cases hi3
  have hrun := run_append_new (ty := ty) (hT.und _ _ ht) (hT.und _ _ hu) hdu hi his hib hiz hl hle ho hn hb1 hb2
  have hzc := (RdL.cells' hzr (zer_ne hT hz)).length
  simp only [Array.length_toList] at hzc
  have hcap := grownCap_ge C.w (sLen + n) sCap e
  generalize grownCap C.w (sLen + n) sCap e = cap at hrun hcap
  have hrl := (hro.append hrn).length
  have hIg : Inv P G C.drew g' d := inv_drew (hI.sub hg')
  have hsize : ((⟨old⟩ ++ ⟨new⟩ ++ Builtin.zeroCells zv.cells (cap - (sLen + n)) : Array Value)).size = cap * sz := by
    have l1 := hro.length
    have l2 := hrn.length
    have : (cap - (sLen + n)) * sz + (sLen + n) * sz = cap * sz := by rw [← Nat.add_mul]; congr 1; omega
    rw [Nat.add_mul] at this
    simp [size_zeroCells']
    rw [← l1, ← l2, hlo, hln, ← hzc, hzl]
    omega
  have htake : ((⟨old⟩ ++ ⟨new⟩ ++ Builtin.zeroCells zv.cells (cap - (sLen + n)) : Array Value)).toList.take (oldA ++ newA).length = old ++ new := by
    rw [hrl]
    simp only [Array.toList_append]
    exact List.take_left
  obtain ⟨q1, q2, q3, q4, q5, q6⟩ := sim_row (C := C.drew) (g := g') (h := h) (e := e) (gr := true) (cs := oldA ++ newA) (arr := ⟨old⟩ ++ ⟨new⟩ ++ Builtin.zeroCells zv.cells (cap - (sLen + n))) hIg hf
    (by rw [hrl]; simp) (fun hh => by cases hh) (by rw [htake]; exact (hro.append hrn).ext (ext_drew C)) (by intro a ha; rcases List.mem_append.1 ha with ha | ha; exact h1 a ha; exact h2 a ha)
  refine ⟨_, C.drew.alloc h _, hrun, q2, (ext_drew C).trans q3, q4, ?_, q6⟩
  simp only [Rd]
  refine ⟨C.w.heap.size, cap, q5, rfl, hcap, trivial, e, cap * sz, ?_, ?_⟩
  · have := heap_alloc_new C.drew.w (.cells (⟨old⟩ ++ ⟨new⟩ ++ Builtin.zeroCells zv.cells (cap - (sLen + n))) e)
    simp only [Ctx.alloc, World.shape?]
    have e0 : C.drew.w.heap.size = C.w.heap.size := rfl
    rw [e0] at this
    rw [this]
    simp only [hsize]
  · simp [Program.cellsOf, hi, his]

theorem sim_append (hT : T.Ok P) (hI : Inv P G C g d) {tys : Array TypeId} {ty : TypeId} {as : List AV} {vs : List Value} {ef : Eff} (ha : RdL P C.w C.S C.φ as vs) (he : aAppend T g h tys as = some ef) :
    SimV P G C g d h (Builtin.append_ tys ty ⟨vs⟩) ef := by
  intro hf
  unfold aAppend at he
  split at he <;> try cases he
  rename_i t u s x
  simp only [RdL] at ha
  obtain ⟨sv, _, rfl, hsv, xv, _, rfl, hxv, rfl⟩ := ha
  split at he <;> try cases he
  rename_i e du ht hu
  split at he <;> try cases he
  rename_i hdu
  split at he <;> try cases he
  rename_i sz' by_ z hs hb hz
  change T.siz e = some (sz' + 1) at hs
  generalize sz' + 1 = sz at *
  have hdu' : ∀ k, du ≠ .int k := fun k e => hdu k e
  obtain ⟨⟨n, xs, rd⟩, hsrc⟩ : ∃ q, srcCells g sz x = some q := by
    cases hq : srcCells g sz x with
    | none => simp [hq] at he
    | some q => exact ⟨q, rfl⟩
  simp only [hsrc] at he
  obtain ⟨hl, hnl, ws, hws, hone, hfirst⟩ := src_rd hI hxv hsrc
  have hnew := hws.take (n * sz)
  have hnewl : (xs.take (n * sz)).length = n * sz := by rw [List.length_take]; omega
  have hnone : ∀ a ∈ xs.take (n * sz), a.one = true := fun a ha => hone a (List.mem_of_mem_take ha)
  have hw0 := hl C.w
  have hf0 := hfirst n (Nat.le_refl _) C.w rfl
  have hfd := hfirst n (Nat.le_refl _) C.w.drew rfl
  split at he
  · rename_i hn0
    subst hn0
    have same : ∀ base len c, sv = .slice base len c → len ≤ c → (Builtin.append_ ⟨[t, u]⟩ ty ⟨[sv, xv]⟩).run P C.w = .ok sv C.w := by
      rintro base len c rfl hlc
      have hz : (match du with | .int _ => true | _ => false) = false := by cases du <;> first | rfl | exact absurd rfl (hdu' _)
      have hle : len + 0 ≤ c := by omega
      cases base with
      | none => simp [Builtin.append_, run_und hT ht, run_und hT hu, run_siz hT hs, hw0, hle, hf0, hz, hlc]
      | some a => simp [Builtin.append_, run_und hT ht, run_und hT hu, run_siz hT hs, hw0, hle, hf0, hz, hlc, storeCells]
    split at he <;> cases he
    · rename_i nl k cs len cap
      refine ⟨sv, C, ?_, rfl, Ext.refl C, hI, hsv, fun _ => .inl rfl⟩
      simp only [Rd] at hsv
      split at hsv
      · obtain ⟨rfl, _⟩ := hsv; exact same _ _ _ rfl (Nat.le_refl _)
      · rcases hsv with ⟨_, _, _, rfl, _, _, hlc, _⟩ | ⟨_, rfl, rfl, _⟩
        · exact same _ _ _ rfl hlc
        · exact same _ _ _ rfl (Nat.le_refl _)
    · refine ⟨sv, C, ?_, rfl, Ext.refl C, hI, hsv, fun _ => .inl rfl⟩
      simp only [Rd] at hsv
      obtain ⟨_, _, _, rfl, hlc, _⟩ := hsv; exact same _ _ _ rfl hlc
  · rename_i hn0
    split at he <;> try cases he
    · rename_i nl k cs len cap
      split at he <;> cases he
      rename_i hc
      obtain ⟨c1, c2, c3, c4, c5, c6⟩ := hc
      have hfr : C.φ h = none := by simpa using hf 0 (by simp)
      simp only [Rd] at hsv
      cases nl with
      | true =>
        simp only [if_true] at hsv
        obtain ⟨rfl, rfl, rfl, _⟩ := hsv
        have := sim_grown (ty := ty) (base := none) (sLen := 0) (sCap := 0) (oldA := ([] : List AV).take (0 * sz)) (old := []) (g' := g) hT hI (fun _ _ h => h) hfr ht hu hdu' hs hb hz c3 hw0 (by omega) (by simp [Builtin.firstCells]) hfd c5 c6 (by simpa using .nil) hnew (by simp) hnewl (by simp) hnone
        simpa [applyUps] using this
      | false =>
        simp only [Bool.false_eq_true, if_false] at hsv
        rcases hsv with ⟨b, off, c, rfl, _, hr, hlc, hcap⟩ | ⟨ad, rfl, rfl, rfl, _⟩
        case inr =>
          have := sim_grown (ty := ty) (base := some ad) (sLen := 0) (sCap := 0) (oldA := ([] : List AV).take (0 * sz)) (old := []) (g' := g) hT hI (fun _ _ h => h) hfr ht hu hdu' hs hb hz c3 hw0 (by omega) (run_firstCells_some C.w.drew sz 0 ad 0 0 [] (by simp) (by simp)) hfd c5 c6 (by simpa using .nil) hnew (by simp) hnewl (by simp) hnone
          simpa [applyUps] using this
        have hcl : c = len := by rcases c1 with h | h; cases h; exact hcap _ h
        subst hcl
        obtain ⟨os, o1, o2, o3⟩ := (hr.out (S := C.S) (φ := C.φ)).list
        have hol : (os.take (c * sz)).length = c * sz := by have := o1.length; rw [List.length_take]; omega
        have := sim_grown (ty := ty) (base := some ⟨b, off, none⟩) (oldA := cs.take (c * sz)) (old := os.take (c * sz)) (g' := g) hT hI (fun _ _ h => h) hfr ht hu hdu' hs hb hz c3 hw0 (by omega)
          (run_firstCells_some C.w.drew sz c ⟨b, off, none⟩ c c _ hol fun j v hj => by
            rw [addr_add]; rw [List.getElem?_take] at hj; split at hj
            · exact o3 j v hj
            · cases hj) hfd c5 c6 (o1.take _) hnew (by rw [List.length_take]; omega) hnewl (fun a ha => o2 a (List.mem_of_mem_take ha)) hnone
        simpa [applyUps] using this
    · rename_i id off len cap
      split at he <;> try cases he
      rename_i cs e' gr hg
      simp only [Rd] at hsv
      obtain ⟨b, c, hbφ, rfl, hlc, hcc⟩ := hsv
      obtain ⟨b', hb', hbS, hobj⟩ := hI.obj id _ hg
      rw [hbφ] at hb'; cases hb'
      split at he
      · rename_i cc
        simp only at hcc
        subst hcc
        split at he
        · rename_i hfit
          split at he <;> cases he
          rename_i hroom
          have hx : off + len * sz + (xs.take (n * sz)).length ≤ cs.length := by rw [hnewl]; rw [Nat.add_mul] at hroom; omega
          obtain ⟨C', r1, r2, r3, r4, r5⟩ := sim_put hI hg hbφ hnew hx hnone
          refine ⟨.slice (some ⟨b, off, none⟩) (len + n) c, C', ?_, r2, r3, by simpa [applyUps] using r4, ?_, fun i => .inl (by rw [r5])⟩
          · exact run_append_fits (hT.und _ _ ht) (hT.und _ _ hu) hdu' (run_siz hT hs _) hw0 hf0 hfit r1
          · simp only [Rd]
            exact ⟨b, c, by rw [r5]; exact hbφ, rfl, hfit, rfl⟩
        · rename_i hfit
          split at he <;> cases he
          rename_i hc
          obtain ⟨c1, c2, c3, c4, c5⟩ := hc
          have hfr : C.φ h = none := by simpa using hf 0 (by simp)
          obtain ⟨os, o1, o2, o3⟩ := (hobj.at off).list
          have hol : (os.take (len * sz)).length = len * sz := by have := o1.length; rw [List.length_drop] at this; rw [List.length_take]; omega
          have := sim_grown (ty := ty) (base := some ⟨b, off, none⟩) (oldA := (cs.drop off).take (len * sz)) (old := os.take (len * sz)) (g' := g) hT hI (fun _ _ h => h) hfr ht hu hdu' hs hb hz c2 hw0 (by omega)
            (run_firstCells_some C.w.drew sz len ⟨b, off, none⟩ len c _ hol fun j v hj => by
              rw [addr_add]; rw [List.getElem?_take] at hj; split at hj
              · exact o3 j v hj
              · cases hj) hfd c4 c5 (o1.take _) hnew (by rw [List.length_take, List.length_drop]; omega) hnewl (fun a ha => o2 a (List.mem_of_mem_take ha)) hnone
          simpa [applyUps] using this
      · split at he <;> cases he
        rename_i hc
        obtain ⟨rfl, c2, rfl, rfl, c3, c4, c5, c6⟩ := hc
        have hfr : C.φ h = none := by simpa using hf 0 (by simp)
        obtain ⟨_, te, tn, hsh, htn⟩ := hcc
        have hobj' := hobj
        obtain ⟨arr, fz, q1, q2, q3, q4, q5, q6⟩ := hobj
        have hsh' : te = e' ∧ tn = arr.size := by simp [World.shape?, q1] at hsh; exact ⟨hsh.1.symm, hsh.2.symm⟩
        obtain ⟨rfl, rfl⟩ := hsh'
        obtain ⟨i, hi, his⟩ := hT.siz _ _ hs
        have hcell : P.cellsOf te = sz := by simp [Program.cellsOf, hi, his]
        rw [hcell] at htn
        have hsub : ∀ (i : Nat) (o : AObj), upd g id none i = some o → g i = some o := fun i o ho => by
          by_cases e1 : i = id
          · subst e1; simp at ho
          · rwa [upd_other _ _ e1] at ho
        by_cases hfit : len + n ≤ c
        · -- in place: the same block under a new number
          have hmul : (len + n) * sz ≤ c * sz := Nat.mul_le_mul_right _ hfit
          rw [Nat.add_mul] at hmul
          have hnl2 := hnew.length
          have hputs : (putA arr (len * sz) (ws.take (n * sz))).size = arr.size := size_putA (by omega)
          have hlen2 : (cs ++ xs.take (n * sz)).length ≤ arr.size := by rw [List.length_append]; omega
          have hrd2 : RdL P C.w C.S C.φ (cs ++ xs.take (n * sz)) ((putA arr (len * sz) (ws.take (n * sz))).toList.take (cs ++ xs.take (n * sz)).length) := by
            have : (putA arr (len * sz) (ws.take (n * sz))).toList.take (cs ++ xs.take (n * sz)).length = arr.toList.take cs.length ++ ws.take (n * sz) := by
              have e1 : (cs ++ xs.take (n * sz)).length = (arr.toList.take (len * sz) ++ ws.take (n * sz)).length := by
                have l3 : (arr.toList.take (len * sz)).length = len * sz := by rw [List.length_take, Array.length_toList (xs := arr)]; omega
                rw [List.length_append, List.length_append, l3, hnl2, c2]
              rw [e1, c2]
              exact List.take_left
            rw [this]
            exact q5.append hnew
          have hstore := run_storeCells (P := P) (off := len * sz) (ws.take (n * sz)) 0 arr C.w q1 q2 (by omega) (hnew.one_all hnone)
          refine ⟨.slice (some ⟨b, 0, none⟩) (len + n) c, C.turn h b (.cells (putA arr (len * sz) (ws.take (n * sz))) te fz), ?_, rfl,
            ext_turn hI hg hbφ q1 hputs (.inr hfr), ?_, ?_, fun j => ?_⟩
          · exact run_append_fits (hT.und _ _ ht) (hT.und _ _ hu) hdu' (run_siz hT hs _) hw0 hf0 hfit (by simpa [Ctx.turn] using hstore)
          · simp only [applyUps]
            exact inv_turn hI hg hbφ q1 q2 hputs (.inr hfr) hlen2 (fun hh => by cases hh) hrd2 (by intro a ha; rcases List.mem_append.1 ha with ha | ha; exact q6 a ha; exact hnone a ha)
          · simp only [Rd]
            refine ⟨b, c, by simp [Ctx.turn], rfl, hfit, trivial, te, arr.size, ?_, by rw [hcell]; exact htn⟩
            have := (ext_turn (i' := h) (fz' := fz) (arr' := putA arr (len * sz) (ws.take (n * sz))) hI hg hbφ q1 hputs (.inr hfr)).shp b (te, arr.size) (by simp [World.shape?, q1])
            exact this
          · by_cases e1 : j = h
            · subst e1; exact .inr ⟨Nat.le_refl _, Nat.lt_succ_self _⟩
            · exact .inl (by simp [Ctx.turn, upd_other _ _ e1])
        · obtain ⟨os, o1, o2, o3⟩ := (hobj'.at 0).list
          rw [List.drop_zero] at o1 o2
          have hol : os.length = len * sz := by rw [← o1.length]; exact c2
          have := sim_grown (ty := ty) (base := some ⟨b, 0, none⟩) (oldA := cs) (old := os) (g' := upd g id none) hT hI hsub hfr ht hu hdu' hs hb hz c3 hw0 (by omega)
            (run_firstCells_some C.w.drew sz len ⟨b, 0, none⟩ len c _ hol fun j v hj => by rw [addr_add]; exact o3 j v hj) hfd c5 c6 o1 hnew c2 hnewl o2 hnone
          simpa [applyUps] using this

end Go.Vid

/-
Each operation of the abstract machine does what the model's operation does: the rest, and all operations in one theorem.
-/
namespace Go.Vid

variable {P : Program} {G : Nat → Option (List AV)} {T : Tab} {C C' : Ctx} {g : Nat → Option AObj} {d h : Nat}

theorem sim_copy (hT : T.Ok P) (hI : Inv P G C g d) {tys : Array TypeId} {ty : TypeId} {as : List AV} {vs : List Value} {ef : Eff} (ha : RdL P C.w C.S C.φ as vs) (he : aCopy T g tys as = some ef) :
    SimV P G C g d h (Builtin.copy_ tys ty ⟨vs⟩) ef := by
  intro hf
  unfold aCopy at he
  split at he <;> try cases he
  rename_i t ts dst x
  simp only [RdL] at ha
  obtain ⟨dv, _, rfl, hdv, xv, _, rfl, hxv, rfl⟩ := ha
  split at he <;> try cases he
  rename_i e ht
  split at he <;> try cases he
  rename_i sz hs
  obtain ⟨⟨n, xs, rd⟩, hsrc⟩ : ∃ q, srcCells g sz x = some q := by
    cases hq : srcCells g sz x with
    | none => simp [hq] at he
    | some q => exact ⟨q, rfl⟩
  simp only [hsrc] at he
  obtain ⟨hl, hnl, ws, hws, hone, hfirst⟩ := src_rd hI hxv hsrc
  split at he <;> try cases he
  · rename_i id off len cap
    split at he <;> try cases he
    rename_i cs e' gr hg
    split at he <;> cases he
    rename_i hroom
    simp only [Rd] at hdv
    obtain ⟨b, c, hb, rfl, _⟩ := hdv
    have hle : min n len * sz ≤ n * sz := Nat.mul_le_mul_right _ (Nat.min_le_left _ _)
    have hlen : (xs.take (min n len * sz)).length = min n len * sz := by rw [List.length_take]; omega
    obtain ⟨C', r1, r2, r3, r4, r5⟩ := sim_put (off := off) hI hg hb (hws.take (min n len * sz)) (by rw [hlen]; exact hroom) (fun a ha => hone a (List.mem_of_mem_take ha))
    refine ⟨.int .i64 (min n len : Nat), C', ?_, r2, r3, by simpa [applyUps] using r4, rd_int, fun i => .inl (by rw [r5])⟩
    have hf0 := hfirst (min n len) (Nat.min_le_left _ _) C.w rfl
    have hm : Nat.min n len = min n len := rfl
    simp [Builtin.copy_, run_und hT ht, hl C.w, run_siz hT hs, hm, hf0, r1, goInt]
  · rename_i nl k cs cap
    simp only [Rd] at hdv
    have hf0 := hfirst 0 (Nat.zero_le _) C.w rfl
    have hm : Nat.min n 0 = 0 := Nat.min_zero n
    refine ⟨.int .i64 0, C, ?_, rfl, Ext.refl C, hI, rd_int, fun _ => .inl rfl⟩
    cases nl
    · simp only [Bool.false_eq_true, if_false] at hdv
      rcases hdv with ⟨b, off, c, rfl, _⟩ | ⟨_, rfl, _⟩ <;>
      simp [Builtin.copy_, run_und hT ht, hl C.w, run_siz hT hs, hf0, storeCells, goInt]
    · simp only [if_true] at hdv
      obtain ⟨rfl, _⟩ := hdv
      simp [Builtin.copy_, run_und hT ht, hl C.w, run_siz hT hs, hf0, goInt]

theorem bytes_rd {w : World} {S : Nat → Nat → Prop} {φ : Nat → Option Nat} : ∀ (cs : List AV) (vs : List Value) (bs : List UInt8), RdL P w S φ cs vs → bytesOfCells cs = some bs →
    ∃ ns : List Int, vs = ns.map (Value.int .u8) ∧ bs = ns.map fun n => UInt8.ofNat n.toNat
  | [], vs, bs, h, hb => by
    simp only [RdL] at h
    simp only [bytesOfCells, Option.some.injEq] at hb
    exact ⟨[], by simp [h], by simp [← hb]⟩
  | a :: cs, vs, bs, h, hb => by
    simp only [RdL] at h
    obtain ⟨v, vs, rfl, hv, hr⟩ := h
    cases a with
    | int k n =>
      cases k <;> simp only [bytesOfCells] at hb <;> try cases hb
      simp only [Option.map_eq_some_iff] at hb
      obtain ⟨bs', hb', rfl⟩ := hb
      simp only [Rd] at hv
      subst hv
      obtain ⟨ns, rfl, rfl⟩ := bytes_rd cs vs bs' hr hb'
      exact ⟨n :: ns, rfl, rfl⟩
    | _ => simp [bytesOfCells] at hb

theorem foldl_push (ns : List Int) : ∀ (s : ByteArray), ns.foldl (fun r n => r.push (UInt8.ofNat n.toNat)) s = ⟨(s.data.toList ++ ns.map fun n => UInt8.ofNat n.toNat).toArray⟩ := by
  induction ns with
  | nil => intro s; simp
  | cons n ns ih =>
    intro s
    rw [List.foldl_cons, ih]
    simp [ByteArray.push]

theorem sim_conv (hT : T.Ok P) (hI : Inv P G C g d) {src dst : TypeId} {x : AV} {v : Value} {ef : Eff} (hx : Rd P C.w C.S C.φ x v) (he : aConv T g src dst x = some ef) : SimV P G C g d h (convert src dst v) ef := by
  unfold aConv at he
  split at he
  · rename_i y k k' n hs hd
    cases he
    simp only [Rd] at hx
    subst hx
    refine .pure hI (v := .int k (k.wrap n)) ?_ rd_int
    simp only [convert, Sem.run_bind, run_und hT hs, run_und hT hd, Result.andThen_ok]
    cases y <;> simp [Conv.intToInt]
  · rename_i y s hs hd
    cases he
    simp only [Rd] at hx
    subst hx
    refine .pure hI (v := .string s) ?_ rd_str
    simp only [convert, Sem.run_bind, run_und hT hs, run_und hT hd, Result.andThen_ok]
    cases y <;> simp
  · rename_i x _ _ _ e hs hd _
    split at he <;> try cases he
    rename_i hu
    obtain ⟨⟨n, cs, rd⟩, hsrc⟩ : ∃ q, srcCells g 1 x = some q := by
      cases hq : srcCells g 1 x with
      | none => simp [hq] at he
      | some q => exact ⟨q, rfl⟩
    simp only [hsrc] at he
    obtain ⟨hl, hnl, ws, hws, hone, hfirst⟩ := src_rd hI hx hsrc
    have hf0 := hfirst n (Nat.le_refl _) C.w rfl
    have fin : ∀ base len c, v = .slice base len c → (base = none → len = 0) → (bytesOfCells (cs.take n)).map (fun bs => (⟨.str ⟨bs.toArray⟩, [], rd, 0⟩ : Eff)) = some ef → SimV P G C g d h (convert src dst v) ef := by
      rintro base len c rfl hb hm
      simp only [Option.map_eq_some_iff] at hm
      obtain ⟨bs, hbs, rfl⟩ := hm
      obtain ⟨ns, hns, rfl⟩ := bytes_rd _ _ _ (hws.take n) hbs
      have hlen : len = n := by have := hl C.w; simp [Builtin.lenOf] at this; exact this
      subst hlen
      refine .pure hI (v := .string ⟨(ns.map fun n => UInt8.ofNat n.toNat).toArray⟩) ?_ rd_str
      rw [run_convert_bytes_string C.w src dst e base len c (hT.und _ _ hs) (hT.und _ _ hu) (hT.und _ _ hd)]
      cases base with
      | none =>
        have h0 := hb rfl
        subst h0
        have : ns = [] := by cases ns with | nil => rfl | cons a b => simp at hns
        subst this
        simp [Conv.bytesToString, ByteArray.empty, ByteArray.emptyWithCapacity]; rfl
      | some a =>
        simp only [Builtin.firstCells, Nat.mul_one] at hf0
        rw [hns] at hf0
        rw [run_bytesToString C.w a len c ns hf0, foldl_push]
        simp [ByteArray.empty, ByteArray.emptyWithCapacity]; rfl
    have hx' := hx
    split at he <;> try cases he
    · simp only [Rd] at hx'
      split at hx'
      · obtain ⟨rfl, rfl, _⟩ := hx'; exact fin _ _ _ rfl (fun _ => rfl) he
      · rcases hx' with ⟨_, _, _, rfl, _⟩ | ⟨_, rfl, _⟩ <;> exact fin _ _ _ rfl (fun hh => by cases hh) he
    · simp only [Rd] at hx'
      obtain ⟨_, _, _, rfl, _⟩ := hx'; exact fin _ _ _ rfl (fun hh => by cases hh) he
  · rename_i e0 e id off len cap hs hd
    split at he <;> try cases he
    rename_i o hu ho
    split at he <;> cases he
    rename_i hsd
    subst hsd
    obtain rfl : e0 = e := by rw [hs] at hd; cases hd; rfl
    have hx' := hx
    simp only [Rd] at hx
    obtain ⟨b, c, hb, rfl, hlc, hcap⟩ := hx
    obtain ⟨b', hb', hnot, hobj⟩ := hI.obj id o ho
    rw [hb] at hb'; cases hb'
    cases o with
    | cells cs el gr =>
      obtain ⟨arr, fz, q1, q2, q3, q4, q5, q6⟩ := hobj
      obtain ⟨fz', hfr, hun⟩ : ∃ fz', C.w.freeze ⟨b, arr.size, none⟩ 1 = C.w.setBlk b (.cells arr el fz') ∧ Unfrozen fz' arr.size := by
        refine ⟨if fz.1 == fz.2 then (arr.size, arr.size + 1) else (min fz.1 arr.size, max fz.2 (arr.size + 1)), ?_, ?_⟩
        · unfold World.freeze World.setBlk
          rw [if_neg (by decide)]
          congr 1
          apply Array.ext_getElem?
          intro i
          rw [Array.getElem?_modify]
          by_cases hi : b = i
          · subst hi
            obtain ⟨hlt, h2⟩ := Array.getElem?_eq_some_iff.1 q1
            simp [hlt, h2]
          · rw [if_neg hi, Array.getElem?_setIfInBounds_ne hi]
        · split
          · exact .inr (Nat.le_refl _)
          · rename_i hne
            rcases q2 with q2 | q2
            · simp [q2] at hne
            · exact .inr (by simp only; omega)
      intro _
      refine ⟨.slice (some ⟨b, off, none⟩) len c, C.turn id b (.cells arr el fz'), ?_, rfl, ext_turn hI ho hb q1 rfl (.inl rfl), ?_, ?_, ?_⟩
      · have hsh : C.w.shape? b = some (el, arr.size) := by simp [World.shape?, q1]
        simp only [convert, Sem.run_bind, run_und hT hs, run_und hT hu, Result.andThen_ok, beq_self_eq_true]
        simp [markStringish, hsh, Ctx.turn]
        exact hfr
      · have := inv_turn (arr' := arr) (fz' := fz') (cs := cs) (gr := gr) hI ho hb q1 hun rfl (.inl rfl) q3 q4 (q5) q6
        have he : upd (upd g id none) id (some (AObj.cells cs el gr)) = upd g id (some (AObj.cells cs el gr)) := by
          funext k; by_cases hk : k = id <;> simp [upd, hk]
        rw [he] at this
        exact this
      · exact Rd.ext hx' (ext_turn hI ho hb q1 rfl (.inl rfl))
      · intro j
        by_cases hj : j = id
        · subst hj; left; simp [Ctx.turn, hb]
        · left; simp [Ctx.turn, upd_other _ _ hj]
  · cases he

/-- Operands, read one by one. -/
def RdE (P : Program) (C : Ctx) (ρ : Operand → Option AV) (ρr : Operand → Value) : Prop := ∀ x a, ρ x = some a → Rd P C.w C.S C.φ a (ρr x)

theorem argsM_rd {ρ : Operand → Option AV} {ρr : Operand → Value} (hρ : RdE P C ρ ρr) : ∀ (xs : List Operand) (as : List AV), argsM ρ xs = some as → RdL P C.w C.S C.φ as (xs.map ρr)
  | [], as, h => by simp only [argsM, Option.some.injEq] at h; subst h; exact .nil
  | x :: xs, as, h => by
    simp only [argsM] at h
    split at h <;> cases h
    rename_i a as' h1 h2
    exact .cons (hρ _ _ h1) (argsM_rd hρ xs as' h2)

theorem partsM_rd {ρ : Operand → Option AV} {ρr : Operand → Value} (hρ : RdE P C ρ ρr) : ∀ (xs : List (Nat × Operand)) (as : List (Nat × AV)), partsM ρ xs = some as → RdP P C.w C.S C.φ as (xs.map fun (i, x) => (i, ρr x))
  | [], as, h => by simp only [partsM, Option.some.injEq] at h; subst h; simp [RdP]
  | (i, x) :: xs, as, h => by
    simp only [partsM] at h
    split at h <;> cases h
    rename_i a as' h1 h2
    simp only [RdP, List.map_cons]
    exact ⟨_, _, rfl, hρ _ _ h1, partsM_rd hρ xs as' h2⟩

theorem optM_rd {ρ : Operand → Option AV} {ρr : Operand → Value} (hρ : RdE P C ρ ρr) {x : Option Operand} {a : Option AV} (h : optM ρ x = some a) : RdO P C.w C.S C.φ a (x.map ρr) := by
  cases x with
  | none => simp only [optM, Option.some.injEq] at h; subst h; simp [RdO]
  | some o =>
    simp only [optM, Option.map_eq_some_iff] at h
    obtain ⟨b, hb, rfl⟩ := h
    exact hρ _ _ hb

theorem SimV.simp {s s' : Sem Value} {e : Eff} (hh : SimV P G C g d h s e) (he : s = s') : SimV P G C g d h s' e := he ▸ hh

theorem min_rd {as : List AV} {a : AV} {vs : List Value} {tys : Array TypeId} {ty : TypeId} (hI : Inv P G C g d) (ha : RdL P C.w C.S C.φ as vs) (he : aMin as = some a) : SimV P G C g d h (Builtin.min_ tys ty ⟨vs⟩) (.of a) := by
  unfold aMin at he
  split at he <;> cases he
  simp only [RdL, Rd] at ha
  obtain ⟨_, _, rfl, rfl, _, _, rfl, rfl, rfl⟩ := ha
  exact .pure hI (v := .int _ _) (by simp [Builtin.min_, Builtin.min2]) rd_int
theorem max_rd {as : List AV} {a : AV} {vs : List Value} {tys : Array TypeId} {ty : TypeId} (hI : Inv P G C g d) (ha : RdL P C.w C.S C.φ as vs) (he : aMax as = some a) : SimV P G C g d h (Builtin.max_ tys ty ⟨vs⟩) (.of a) := by
  unfold aMax at he
  split at he <;> cases he
  simp only [RdL, Rd] at ha
  obtain ⟨_, _, rfl, rfl, _, _, rfl, rfl, rfl⟩ := ha
  exact .pure hI (v := .int _ _) (by simp [Builtin.max_, Builtin.max2]) rd_int

/-- ALL OPERATIONS. -/
theorem astep_sound (hT : T.Ok P) (hI : Inv P G C g d) {ρ : Operand → Option AV} {ρr : Operand → Value} (hρ : RdE P C ρ ρr) {o : Oper} {e : Eff} (he : astep T ρ g h o.op = some e) :
    Sim P G C g d h (execOp ρr o) e := by
  obtain ⟨dst, op, type, pos, after, guard⟩ := o
  have pure1 : ∀ {x : Operand} {e : Eff}, (ρ x).map Eff.of = some e → Sim P G C g d h (Pure.pure (Next.value (ρr x))) e := by
    intro x e he
    simp only [Option.map_eq_some_iff] at he
    obtain ⟨a, ha, rfl⟩ := he
    exact fun _ => ⟨ρr x, C, .inl rfl, rfl, Ext.refl C, hI, hρ _ _ ha, fun _ => .inl rfl⟩
  cases op <;> simp only [astep] at he
  case move x => exact pure1 he
  case assign x => exact pure1 he
  case pick c a b =>
    split at he <;> try cases he
    all_goals
      rename_i hc
      have := hρ _ _ hc
      simp only [Rd] at this
      simp only [Option.map_eq_some_iff] at he
      obtain ⟨v, hv, rfl⟩ := he
      refine fun _ => ⟨_, C, .inl ?_, rfl, Ext.refl C, hI, hρ _ _ hv, fun _ => .inl rfl⟩
      simp [execOp, this, asBool]
  case alloc el =>
    simp only [Option.bind_eq_some_iff] at he
    obtain ⟨z, hz, he⟩ := he
    obtain ⟨zv, hz1, hz2⟩ := run_zer hT hz C.w
    have := sim_new (v := zv) hI (toAV_rd zv z hz2) he
    refine SimV.sim (s := Instr.alloc el true (.tuple #[])) fun hf => ?_
    obtain ⟨v, C', h1, h2⟩ := this hf
    exact ⟨v, C', by simpa [Instr.alloc, hz1] using h1, h2⟩
  case box el x =>
    simp only [Option.bind_eq_some_iff] at he
    obtain ⟨a, ha, he⟩ := he
    exact SimV.sim (sim_new hI (hρ _ _ ha) he)
  case build t parts =>
    simp only [Option.bind_eq_some_iff, Option.map_eq_some_iff] at he
    obtain ⟨ps, hps, a, ha, rfl⟩ := he
    have := partsM_rd hρ _ _ hps
    exact SimV.sim ((sim_build hT hI this ha).simp (by congr 1; exact (Array.ext' (by simp))))
  case buildSlice t n parts =>
    simp only [Option.bind_eq_some_iff] at he
    obtain ⟨ps, hps, he⟩ := he
    have := partsM_rd hρ _ _ hps
    exact SimV.sim ((sim_buildSlice hT hI this he).simp (by congr 1; exact (Array.ext' (by simp))))
  case load t p =>
    simp only [Option.bind_eq_some_iff] at he
    obtain ⟨a, ha, he⟩ := he
    exact SimV.sim (sim_load hT hI (hρ _ _ ha) he)
  case store t p x =>
    split at he <;> try cases he
    rename_i h1 h2
    exact sim_store hT hI (hρ _ _ h1) (hρ _ _ h2) he
  case fieldAddr s p f =>
    simp only [Option.bind_eq_some_iff, Option.map_eq_some_iff] at he
    obtain ⟨a, ha, b, hb, rfl⟩ := he
    exact SimV.sim (sim_fieldAddr hT hI (hρ _ _ ha) hb)
  case field s x f =>
    simp only [Option.bind_eq_some_iff, Option.map_eq_some_iff] at he
    obtain ⟨a, ha, b, hb, rfl⟩ := he
    exact SimV.sim (sim_field hT hI (hρ _ _ ha) hb)
  case indexAddr t x i =>
    split at he <;> try cases he
    rename_i h1 h2
    simp only [Option.map_eq_some_iff] at he
    obtain ⟨b, hb, rfl⟩ := he
    exact SimV.sim (sim_indexAddr hT hI (hρ _ _ h1) (hρ _ _ h2) hb)
  case index t x i =>
    split at he <;> try cases he
    rename_i h1 h2
    simp only [Option.map_eq_some_iff] at he
    obtain ⟨b, hb, rfl⟩ := he
    exact SimV.sim (sim_index hT hI (hρ _ _ h1) (hρ _ _ h2) hb)
  case slice t x lo hi mx =>
    split at he <;> try cases he
    rename_i h1 h2 h3 h4
    simp only [Option.map_eq_some_iff] at he
    obtain ⟨b, hb, rfl⟩ := he
    exact SimV.sim (sim_slice hT hI (hρ _ _ h1) (optM_rd hρ h2) (optM_rd hρ h3) (optM_rd hρ h4) hb)
  case makeSlice t l c =>
    split at he <;> try cases he
    rename_i h1 h2
    exact SimV.sim (sim_makeSlice hT hI (hρ _ _ h1) (hρ _ _ h2) he)
  case extract t i =>
    split at he <;> try cases he
    rename_i vs hvs
    simp only [Option.map_eq_some_iff] at he
    obtain ⟨b, hb, rfl⟩ := he
    have := hρ _ _ hvs
    simp only [Rd] at this
    obtain ⟨us, hu, hr⟩ := this
    obtain ⟨v, hv, hrv⟩ := hr.get hb
    refine SimV.sim (.pure hI (v := v) ?_ hrv)
    have : (⟨us⟩ : Array Value)[i]? = some v := by simpa using hv
    simp [Instr.extract, hu, this]
  case binOp op t x y yt =>
    split at he <;> try cases he
    rename_i h1 h2
    simp only [Option.map_eq_some_iff] at he
    obtain ⟨b, hb, rfl⟩ := he
    exact SimV.sim (sim_bin hT hI (hρ _ _ h1) (hρ _ _ h2) hb)
  case unOp op t x =>
    simp only [Option.bind_eq_some_iff, Option.map_eq_some_iff] at he
    obtain ⟨a, ha, b, hb, rfl⟩ := he
    exact SimV.sim (sim_un hI (hρ _ _ ha) hb)
  case convert s t x =>
    simp only [Option.bind_eq_some_iff] at he
    obtain ⟨a, ha, he⟩ := he
    exact SimV.sim (sim_conv hT hI (hρ _ _ ha) he)
  case makeInterface t x =>
    split at he <;> try cases he
    rename_i y hn hy
    simp only [Option.map_eq_some_iff] at he
    obtain ⟨a, ha, rfl⟩ := he
    refine SimV.sim (.pure hI (v := .iface t (ρr x)) ?_ ?_)
    · have : ∀ ms, y ≠ .interface ms := fun ms e => hn ms e
      simp only [Instr.makeInterface, Sem.run_bind, run_und hT hy, Result.andThen_ok]
      cases y <;> first | rfl | exact absurd rfl (this _)
    · simp only [Rd]; exact ⟨_, rfl, hρ _ _ ha⟩
  case makeFunc fn first cap =>
    split at he <;> try cases he
    rename_i fs cs h1 h2
    refine SimV.sim (.pure hI (v := .func fn (first.map ρr) (cap.map ρr)) (by simp [Instr.makeFunc]) ?_)
    simp only [Rd]
    refine ⟨first.toList.map ρr, cap.toList.map ρr, ?_, argsM_rd hρ _ _ h1, argsM_rd hρ _ _ h2⟩
    congr 1 <;> (apply Array.ext'; simp)
  case typeAssert x xt t ok =>
    simp only [Option.bind_eq_some_iff, Option.map_eq_some_iff] at he
    obtain ⟨a, ha, b, hb, rfl⟩ := he
    exact SimV.sim (sim_assert hT hI (hρ _ _ ha) hb)
  case nilCheck x =>
    simp only [Option.bind_eq_some_iff, Option.map_eq_some_iff] at he
    obtain ⟨a, ha, b, hb, rfl⟩ := he
    have hr := hρ _ _ ha
    have hb' : b = a := by unfold aNilCheck at hb; split at hb <;> cases hb <;> rfl
    subst hb'
    refine fun _ => ⟨ρr x, C, .inl ?_, rfl, Ext.refl C, hI, hr, fun _ => .inl rfl⟩
    unfold aNilCheck at hb
    split at hb <;> cases hb <;> simp only [Rd] at hr
    · obtain ⟨_, _, hv, _⟩ := hr; simp [execOp, hv]
    · obtain ⟨_, _, hv⟩ := hr; simp [execOp, hv]
    · obtain ⟨_, _, hv, _⟩ := hr; simp [execOp, hv]
  case call c =>
    obtain ⟨callee, args, argTypes⟩ := c
    cases callee with
    | value f => cases he
    | invoke r m => cases he
    | builtin b =>
      simp only at he
      split at he <;> try cases he
      rename_i as has
      have hr := argsM_rd hρ _ _ has
      have wrap : ∀ (s : Sem Value) (e : Eff), SimV P G C g d h s e → (execOp ρr { dst, op := .call { callee := .builtin b, args, argTypes }, type, pos, after, guard } = (do pure (.value (← s)))) → Sim P G C g d h (execOp ρr { dst, op := .call { callee := .builtin b, args, argTypes }, type, pos, after, guard }) e :=
        fun s e h1 h2 => h2 ▸ h1.sim
      have hargs : args.map ρr = ⟨args.toList.map ρr⟩ := by apply Array.ext'; simp
      cases b <;> simp only at he <;> try cases he
      case append =>
        refine wrap _ _ (sim_append (ty := type) hT hI hr he) ?_
        simp [execOp, resolve, invoke, builtin, hargs]
      case copy =>
        refine wrap _ _ (sim_copy (ty := type) hT hI hr he) ?_
        simp [execOp, resolve, invoke, builtin, hargs]
      case len =>
        split at he <;> try cases he
        rename_i t ts x xs
        simp only [Option.map_eq_some_iff] at he
        obtain ⟨a, ha, rfl⟩ := he
        simp only [RdL] at hr
        obtain ⟨v, vs, hv, hrv, _⟩ := hr
        refine wrap _ _ (sim_len (ty := type) (ts := ts) (vs := vs) hT hI hrv ha) ?_
        simp [execOp, resolve, invoke, builtin, hargs, hv]
      case cap =>
        split at he <;> try cases he
        rename_i t ts x xs
        simp only [Option.map_eq_some_iff] at he
        obtain ⟨a, ha, rfl⟩ := he
        simp only [RdL] at hr
        obtain ⟨v, vs, hv, hrv, _⟩ := hr
        refine wrap _ _ (sim_cap (ty := type) (ts := ts) (vs := vs) hT hI hrv ha) ?_
        simp [execOp, resolve, invoke, builtin, hargs, hv]
      case min =>
        simp only [Option.map_eq_some_iff] at he
        obtain ⟨a, ha, rfl⟩ := he
        refine wrap _ _ (min_rd (tys := argTypes) (ty := type) hI hr ha) ?_
        simp [execOp, resolve, invoke, builtin, hargs]
      case max =>
        simp only [Option.map_eq_some_iff] at he
        obtain ⟨a, ha, rfl⟩ := he
        refine wrap _ _ (max_rd (tys := argTypes) (ty := type) hI hr ha) ?_
        simp [execOp, resolve, invoke, builtin, hargs]
  all_goals cases he

end Go.Vid
