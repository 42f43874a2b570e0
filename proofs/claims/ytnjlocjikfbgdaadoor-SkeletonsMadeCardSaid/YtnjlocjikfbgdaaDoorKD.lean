/-
The program as the abstract machine knows it; words for its values.
-/
import Derived.Test.YtnjlocjikfbgdaaDoorKB
import Derived.Test.YtnjlocjikfbgdaaDoorProg
import Derived.KernelRfl
import Derived.Test.YtnjlocjikfbgdaaDoorKC
set_option linter.all false

/-
The program's types as the abstract machine's table knows them: a tree of numbers; each entry compared with the program's own by the kernel.
-/
namespace Go.Vid

structure Ent where
  und : TypeDesc
  siz : Nat
  byt : Nat
  zer : AV
  eqs : Bool

inductive Tr (α : Type) where
  | e
  | l (k : Nat) (v : α)
  | n (k : Nat) (x y : Tr α)

def Tr.get {α : Type} : Tr α → Nat → Option α
  | .e, _ => none
  | .l k v, t => match Nat.beq t k with
    | true => some v
    | false => none
  | .n k x y, t => match Nat.ble k t with
    | true => y.get t
    | false => x.get t

def Tr.all {α : Type} (p : Nat → α → Prop) : Tr α → Prop
  | .e => True
  | .l k v => p k v
  | .n _ x y => x.all p ∧ y.all p

theorem Tr.get_all {α : Type} {p : Nat → α → Prop} : ∀ {r : Tr α} {t : Nat} {v : α}, r.all p → r.get t = some v → p t v
  | .e, _, _, _, h => by simp [Tr.get] at h
  | .l k u, t, v, ha, h => by
    simp only [Tr.get] at h
    split at h
    · rename_i hb
      have := Nat.eq_of_beq_eq_true hb
      cases h; subst this; exact ha
    · cases h
  | .n k x y, t, v, ha, h => by
    simp only [Tr.get] at h
    split at h
    · exact Tr.get_all ha.2 h
    · exact Tr.get_all ha.1 h

def Ent.Fits (P : Program) (t : Nat) (x : Ent) : Prop :=
  P.underlying t = some x.und ∧ ((P.info? t).map fun i => (i.size, i.bytes)) = some (x.siz, x.byt) ∧ ((P.info? t).bind fun i => i.zero.bind toAV) = some x.zer ∧ (x.eqs = true → P.stoodInHeld t = false ∧ P.eqGuardType P.depth t = false)

def ty2 : Ent := ⟨(.int .i64), 1, 8, (.int .i64 (0)), false⟩
def ty3 : Ent := ⟨(.int .i64), 1, 8, (.int .i64 (0)), false⟩
def ty4 : Ent := ⟨.bool, 1, 1, (.bool false), false⟩
def ty5 : Ent := ⟨(.int .u8), 1, 1, (.int .u8 (0)), false⟩
def ty9 : Ent := ⟨.string, 1, 16, (.str ⟨⟨[]⟩⟩), false⟩
def ty12 : Ent := ⟨(.int .u64), 1, 8, (.int .u64 (0)), false⟩
def ty20 : Ent := ⟨(.interface ⟨[]⟩), 1, 16, .nili, false⟩
def ty21 : Ent := ⟨(.int .i32), 1, 4, (.int .i32 (0)), false⟩
def ty22 : Ent := ⟨(.slice 5), 1, 24, (.lsl true 0 [] 0 (some 0)), false⟩
def ty23 : Ent := ⟨(.array 13 22), 13, 312, (.agg [.lsl true 0 [] 0 (some 0), .lsl true 0 [] 0 (some 0), .lsl true 0 [] 0 (some 0), .lsl true 0 [] 0 (some 0), .lsl true 0 [] 0 (some 0), .lsl true 0 [] 0 (some 0), .lsl true 0 [] 0 (some 0), .lsl true 0 [] 0 (some 0), .lsl true 0 [] 0 (some 0), .lsl true 0 [] 0 (some 0), .lsl true 0 [] 0 (some 0), .lsl true 0 [] 0 (some 0), .lsl true 0 [] 0 (some 0)]), false⟩
def ty24 : Ent := ⟨(.struct ⟨[⟨"Which", 5, 0, false, "", "", 0⟩, ⟨"Codes", 23, 1, false, "", "", 8⟩]⟩), 14, 320, (.agg [.int .u8 (0), .lsl true 0 [] 0 (some 0), .lsl true 0 [] 0 (some 0), .lsl true 0 [] 0 (some 0), .lsl true 0 [] 0 (some 0), .lsl true 0 [] 0 (some 0), .lsl true 0 [] 0 (some 0), .lsl true 0 [] 0 (some 0), .lsl true 0 [] 0 (some 0), .lsl true 0 [] 0 (some 0), .lsl true 0 [] 0 (some 0), .lsl true 0 [] 0 (some 0), .lsl true 0 [] 0 (some 0), .lsl true 0 [] 0 (some 0)]), false⟩
def ty25 : Ent := ⟨(.struct ⟨[⟨"Which", 5, 0, false, "", "", 0⟩, ⟨"Codes", 23, 1, false, "", "", 8⟩]⟩), 14, 320, (.agg [.int .u8 (0), .lsl true 0 [] 0 (some 0), .lsl true 0 [] 0 (some 0), .lsl true 0 [] 0 (some 0), .lsl true 0 [] 0 (some 0), .lsl true 0 [] 0 (some 0), .lsl true 0 [] 0 (some 0), .lsl true 0 [] 0 (some 0), .lsl true 0 [] 0 (some 0), .lsl true 0 [] 0 (some 0), .lsl true 0 [] 0 (some 0), .lsl true 0 [] 0 (some 0), .lsl true 0 [] 0 (some 0), .lsl true 0 [] 0 (some 0)]), false⟩
def ty26 : Ent := ⟨(.int .u8), 1, 1, (.int .u8 (0)), false⟩
def ty27 : Ent := ⟨(.int .u32), 1, 4, (.int .u32 (0)), false⟩
def ty28 : Ent := ⟨(.struct ⟨[⟨"Class", 26, 0, false, "", "", 0⟩, ⟨"Constructed", 4, 1, false, "", "", 1⟩, ⟨"Number", 27, 2, false, "", "", 4⟩]⟩), 3, 8, (.agg [.int .u8 (0), .bool false, .int .u32 (0)]), false⟩
def ty29 : Ent := ⟨(.struct ⟨[⟨"Class", 26, 0, false, "", "", 0⟩, ⟨"Constructed", 4, 1, false, "", "", 1⟩, ⟨"Number", 27, 2, false, "", "", 4⟩]⟩), 3, 8, (.agg [.int .u8 (0), .bool false, .int .u32 (0)]), true⟩
def ty30 : Ent := ⟨(.slice 32), 1, 24, (.lsl true 0 [] 0 (some 0)), false⟩
def ty31 : Ent := ⟨(.struct ⟨[⟨"Tag", 29, 0, false, "", "", 0⟩, ⟨"Bytes", 22, 3, false, "", "", 8⟩, ⟨"Subs", 30, 4, false, "", "", 32⟩]⟩), 5, 56, (.agg [.int .u8 (0), .bool false, .int .u32 (0), .lsl true 0 [] 0 (some 0), .lsl true 0 [] 0 (some 0)]), false⟩
def ty32 : Ent := ⟨(.struct ⟨[⟨"Tag", 29, 0, false, "", "", 0⟩, ⟨"Bytes", 22, 3, false, "", "", 8⟩, ⟨"Subs", 30, 4, false, "", "", 32⟩]⟩), 5, 56, (.agg [.int .u8 (0), .bool false, .int .u32 (0), .lsl true 0 [] 0 (some 0), .lsl true 0 [] 0 (some 0)]), false⟩
def ty34 : Ent := ⟨(.array 13 4), 13, 13, (.agg [.bool false, .bool false, .bool false, .bool false, .bool false, .bool false, .bool false, .bool false, .bool false, .bool false, .bool false, .bool false, .bool false]), false⟩
def ty37 : Ent := ⟨(.slice 42), 1, 24, (.lsl true 0 [] 0 (some 0)), false⟩
def ty38 : Ent := ⟨(.int .i64), 1, 8, (.int .i64 (0)), false⟩
def ty41 : Ent := ⟨(.struct ⟨[⟨"At", 3, 0, false, "", "", 0⟩, ⟨"Size", 3, 1, false, "", "", 8⟩]⟩), 2, 16, (.agg [.int .i64 (0), .int .i64 (0)]), false⟩
def ty42 : Ent := ⟨(.struct ⟨[⟨"At", 3, 0, false, "", "", 0⟩, ⟨"Size", 3, 1, false, "", "", 8⟩]⟩), 2, 16, (.agg [.int .i64 (0), .int .i64 (0)]), true⟩
def ty48 : Ent := ⟨(.slice 3), 1, 24, (.lsl true 0 [] 0 (some 0)), false⟩
def ty49 : Ent := ⟨(.struct ⟨[⟨"Path", 48, 0, false, "", "", 0⟩, ⟨"E", 38, 1, false, "", "", 24⟩]⟩), 2, 32, (.agg [.lsl true 0 [] 0 (some 0), .int .i64 (0)]), false⟩
def ty50 : Ent := ⟨(.struct ⟨[⟨"Path", 48, 0, false, "", "", 0⟩, ⟨"E", 38, 1, false, "", "", 24⟩]⟩), 2, 32, (.agg [.lsl true 0 [] 0 (some 0), .int .i64 (0)]), false⟩
def ty55 : Ent := ⟨(.slice 9), 1, 24, (.lsl true 0 [] 0 (some 0)), false⟩
def ty58 : Ent := ⟨(.int .u8), 1, 1, (.int .u8 (0)), false⟩
def ty60 : Ent := ⟨(.array 13 48), 13, 312, (.agg [.lsl true 0 [] 0 (some 0), .lsl true 0 [] 0 (some 0), .lsl true 0 [] 0 (some 0), .lsl true 0 [] 0 (some 0), .lsl true 0 [] 0 (some 0), .lsl true 0 [] 0 (some 0), .lsl true 0 [] 0 (some 0), .lsl true 0 [] 0 (some 0), .lsl true 0 [] 0 (some 0), .lsl true 0 [] 0 (some 0), .lsl true 0 [] 0 (some 0), .lsl true 0 [] 0 (some 0), .lsl true 0 [] 0 (some 0)]), false⟩
def ty61 : Ent := ⟨(.struct ⟨[⟨"Version", 3, 0, false, "", "", 0⟩, ⟨"Paths", 60, 1, false, "", "", 8⟩]⟩), 14, 320, (.agg [.int .i64 (0), .lsl true 0 [] 0 (some 0), .lsl true 0 [] 0 (some 0), .lsl true 0 [] 0 (some 0), .lsl true 0 [] 0 (some 0), .lsl true 0 [] 0 (some 0), .lsl true 0 [] 0 (some 0), .lsl true 0 [] 0 (some 0), .lsl true 0 [] 0 (some 0), .lsl true 0 [] 0 (some 0), .lsl true 0 [] 0 (some 0), .lsl true 0 [] 0 (some 0), .lsl true 0 [] 0 (some 0), .lsl true 0 [] 0 (some 0)]), false⟩
def ty62 : Ent := ⟨(.struct ⟨[⟨"Version", 3, 0, false, "", "", 0⟩, ⟨"Paths", 60, 1, false, "", "", 8⟩]⟩), 14, 320, (.agg [.int .i64 (0), .lsl true 0 [] 0 (some 0), .lsl true 0 [] 0 (some 0), .lsl true 0 [] 0 (some 0), .lsl true 0 [] 0 (some 0), .lsl true 0 [] 0 (some 0), .lsl true 0 [] 0 (some 0), .lsl true 0 [] 0 (some 0), .lsl true 0 [] 0 (some 0), .lsl true 0 [] 0 (some 0), .lsl true 0 [] 0 (some 0), .lsl true 0 [] 0 (some 0), .lsl true 0 [] 0 (some 0), .lsl true 0 [] 0 (some 0)]), false⟩
def ty72 : Ent := ⟨(.pointer 3), 1, 8, .nilp, false⟩
def ty83 : Ent := ⟨(.struct ⟨[⟨"Code", 22, 0, false, "", "", 0⟩]⟩), 1, 24, (.agg [.lsl true 0 [] 0 (some 0)]), false⟩
def ty84 : Ent := ⟨(.struct ⟨[⟨"Code", 22, 0, false, "", "", 0⟩]⟩), 1, 24, (.agg [.lsl true 0 [] 0 (some 0)]), false⟩
def ty92 : Ent := ⟨(.struct ⟨[⟨"Tag", 29, 0, false, "", "", 0⟩, ⟨"Any", 4, 3, false, "", "", 8⟩, ⟨"Optional", 4, 4, false, "", "", 9⟩]⟩), 5, 12, (.agg [.int .u8 (0), .bool false, .int .u32 (0), .bool false, .bool false]), false⟩
def ty93 : Ent := ⟨(.struct ⟨[⟨"Tag", 29, 0, false, "", "", 0⟩, ⟨"Any", 4, 3, false, "", "", 8⟩, ⟨"Optional", 4, 4, false, "", "", 9⟩]⟩), 5, 12, (.agg [.int .u8 (0), .bool false, .int .u32 (0), .bool false, .bool false]), false⟩
def ty94 : Ent := ⟨(.slice 93), 1, 24, (.lsl true 0 [] 0 (some 0)), false⟩
def ty99 : Ent := ⟨(.array 13 9), 13, 208, (.agg [.str ⟨⟨[]⟩⟩, .str ⟨⟨[]⟩⟩, .str ⟨⟨[]⟩⟩, .str ⟨⟨[]⟩⟩, .str ⟨⟨[]⟩⟩, .str ⟨⟨[]⟩⟩, .str ⟨⟨[]⟩⟩, .str ⟨⟨[]⟩⟩, .str ⟨⟨[]⟩⟩, .str ⟨⟨[]⟩⟩, .str ⟨⟨[]⟩⟩, .str ⟨⟨[]⟩⟩, .str ⟨⟨[]⟩⟩]), false⟩
def ty101 : Ent := ⟨(.array 13 93), 65, 156, (.agg [.int .u8 (0), .bool false, .int .u32 (0), .bool false, .bool false, .int .u8 (0), .bool false, .int .u32 (0), .bool false, .bool false, .int .u8 (0), .bool false, .int .u32 (0), .bool false, .bool false, .int .u8 (0), .bool false, .int .u32 (0), .bool false, .bool false, .int .u8 (0), .bool false, .int .u32 (0), .bool false, .bool false, .int .u8 (0), .bool false, .int .u32 (0), .bool false, .bool false, .int .u8 (0), .bool false, .int .u32 (0), .bool false, .bool false, .int .u8 (0), .bool false, .int .u32 (0), .bool false, .bool false, .int .u8 (0), .bool false, .int .u32 (0), .bool false, .bool false, .int .u8 (0), .bool false, .int .u32 (0), .bool false, .bool false, .int .u8 (0), .bool false, .int .u32 (0), .bool false, .bool false, .int .u8 (0), .bool false, .int .u32 (0), .bool false, .bool false, .int .u8 (0), .bool false, .int .u32 (0), .bool false, .bool false]), false⟩
def ty115 : Ent := ⟨(.struct ⟨[⟨"at", 3, 0, false, "", "vidimus/elements", 0⟩, ⟨"err", 38, 1, false, "", "vidimus/elements", 8⟩]⟩), 2, 16, (.agg [.int .i64 (0), .int .i64 (0)]), false⟩
def ty116 : Ent := ⟨(.struct ⟨[⟨"at", 3, 0, false, "", "vidimus/elements", 0⟩, ⟨"err", 38, 1, false, "", "vidimus/elements", 8⟩]⟩), 2, 16, (.agg [.int .i64 (0), .int .i64 (0)]), false⟩
def ty118 : Ent := ⟨(.struct ⟨[⟨"b", 22, 0, false, "", "vidimus/elements", 0⟩, ⟨"count", 3, 1, false, "", "vidimus/elements", 24⟩]⟩), 2, 32, (.agg [.lsl true 0 [] 0 (some 0), .int .i64 (0)]), false⟩
def ty119 : Ent := ⟨(.struct ⟨[⟨"b", 22, 0, false, "", "vidimus/elements", 0⟩, ⟨"count", 3, 1, false, "", "vidimus/elements", 24⟩]⟩), 2, 32, (.agg [.lsl true 0 [] 0 (some 0), .int .i64 (0)]), false⟩
def ty126 : Ent := ⟨(.array 2 58), 2, 2, (.agg [.int .u8 (0), .int .u8 (0)]), false⟩
def ty135 : Ent := ⟨(.pointer 119), 1, 8, .nilp, false⟩
def ty143 : Ent := ⟨(.func ⟨[32, 3]⟩ ⟨[38]⟩ false), 1, 8, .nilf, false⟩
def ty144 : Ent := ⟨(.int .i8), 1, 1, (.int .i8 (0)), false⟩
def ty145 : Ent := ⟨(.int .u64), 1, 8, (.int .u64 (0)), false⟩
def ty152 : Ent := ⟨(.array 3 5), 3, 3, (.agg [.int .u8 (0), .int .u8 (0), .int .u8 (0)]), false⟩
def ty153 : Ent := ⟨(.array 3 5), 3, 3, (.agg [.int .u8 (0), .int .u8 (0), .int .u8 (0)]), false⟩
def tyTree : Tr Ent := .n 49 (.n 26 (.n 20 (.n 5 (.n 3 (.l 2 ty2) (.n 4 (.l 3 ty3) (.l 4 ty4))) (.n 9 (.l 5 ty5) (.n 12 (.l 9 ty9) (.l 12 ty12)))) (.n 23 (.n 21 (.l 20 ty20) (.n 22 (.l 21 ty21) (.l 22 ty22))) (.n 24 (.l 23 ty23) (.n 25 (.l 24 ty24) (.l 25 ty25))))) (.n 32 (.n 29 (.n 27 (.l 26 ty26) (.n 28 (.l 27 ty27) (.l 28 ty28))) (.n 30 (.l 29 ty29) (.n 31 (.l 30 ty30) (.l 31 ty31)))) (.n 38 (.n 34 (.l 32 ty32) (.n 37 (.l 34 ty34) (.l 37 ty37))) (.n 42 (.n 41 (.l 38 ty38) (.l 41 ty41)) (.n 48 (.l 42 ty42) (.l 48 ty48)))))) (.n 99 (.n 62 (.n 58 (.n 50 (.l 49 ty49) (.n 55 (.l 50 ty50) (.l 55 ty55))) (.n 60 (.l 58 ty58) (.n 61 (.l 60 ty60) (.l 61 ty61)))) (.n 84 (.n 72 (.l 62 ty62) (.n 83 (.l 72 ty72) (.l 83 ty83))) (.n 93 (.n 92 (.l 84 ty84) (.l 92 ty92)) (.n 94 (.l 93 ty93) (.l 94 ty94))))) (.n 126 (.n 116 (.n 101 (.l 99 ty99) (.n 115 (.l 101 ty101) (.l 115 ty115))) (.n 118 (.l 116 ty116) (.n 119 (.l 118 ty118) (.l 119 ty119)))) (.n 144 (.n 135 (.l 126 ty126) (.n 143 (.l 135 ty135) (.l 143 ty143))) (.n 152 (.n 145 (.l 144 ty144) (.l 145 ty145)) (.n 153 (.l 152 ty152) (.l 153 ty153))))))
open Go.Proofs (Tryd.prog)
set_option maxRecDepth 100000
theorem fits2 : ty2.Fits Go.Proofs.Tryd.prog 2 := ⟨by kernel_rfl, by kernel_rfl, by kernel_rfl, fun h => by cases h⟩
theorem fits3 : ty3.Fits Go.Proofs.Tryd.prog 3 := ⟨by kernel_rfl, by kernel_rfl, by kernel_rfl, fun h => by cases h⟩
theorem fits4 : ty4.Fits Go.Proofs.Tryd.prog 4 := ⟨by kernel_rfl, by kernel_rfl, by kernel_rfl, fun h => by cases h⟩
theorem fits5 : ty5.Fits Go.Proofs.Tryd.prog 5 := ⟨by kernel_rfl, by kernel_rfl, by kernel_rfl, fun h => by cases h⟩
theorem fits9 : ty9.Fits Go.Proofs.Tryd.prog 9 := ⟨by kernel_rfl, by kernel_rfl, by kernel_rfl, fun h => by cases h⟩
theorem fits12 : ty12.Fits Go.Proofs.Tryd.prog 12 := ⟨by kernel_rfl, by kernel_rfl, by kernel_rfl, fun h => by cases h⟩
theorem fits20 : ty20.Fits Go.Proofs.Tryd.prog 20 := ⟨by kernel_rfl, by kernel_rfl, by kernel_rfl, fun h => by cases h⟩
theorem fits21 : ty21.Fits Go.Proofs.Tryd.prog 21 := ⟨by kernel_rfl, by kernel_rfl, by kernel_rfl, fun h => by cases h⟩
theorem fits22 : ty22.Fits Go.Proofs.Tryd.prog 22 := ⟨by kernel_rfl, by kernel_rfl, by kernel_rfl, fun h => by cases h⟩
theorem fits23 : ty23.Fits Go.Proofs.Tryd.prog 23 := ⟨by kernel_rfl, by kernel_rfl, by kernel_rfl, fun h => by cases h⟩
theorem fits24 : ty24.Fits Go.Proofs.Tryd.prog 24 := ⟨by kernel_rfl, by kernel_rfl, by kernel_rfl, fun h => by cases h⟩
theorem fits25 : ty25.Fits Go.Proofs.Tryd.prog 25 := ⟨by kernel_rfl, by kernel_rfl, by kernel_rfl, fun h => by cases h⟩
theorem fits26 : ty26.Fits Go.Proofs.Tryd.prog 26 := ⟨by kernel_rfl, by kernel_rfl, by kernel_rfl, fun h => by cases h⟩
theorem fits27 : ty27.Fits Go.Proofs.Tryd.prog 27 := ⟨by kernel_rfl, by kernel_rfl, by kernel_rfl, fun h => by cases h⟩
theorem fits28 : ty28.Fits Go.Proofs.Tryd.prog 28 := ⟨by kernel_rfl, by kernel_rfl, by kernel_rfl, fun h => by cases h⟩
theorem fits29 : ty29.Fits Go.Proofs.Tryd.prog 29 := ⟨by kernel_rfl, by kernel_rfl, by kernel_rfl, fun _ => ⟨by kernel_rfl, by kernel_rfl⟩⟩
theorem fits30 : ty30.Fits Go.Proofs.Tryd.prog 30 := ⟨by kernel_rfl, by kernel_rfl, by kernel_rfl, fun h => by cases h⟩
theorem fits31 : ty31.Fits Go.Proofs.Tryd.prog 31 := ⟨by kernel_rfl, by kernel_rfl, by kernel_rfl, fun h => by cases h⟩
theorem fits32 : ty32.Fits Go.Proofs.Tryd.prog 32 := ⟨by kernel_rfl, by kernel_rfl, by kernel_rfl, fun h => by cases h⟩
theorem fits34 : ty34.Fits Go.Proofs.Tryd.prog 34 := ⟨by kernel_rfl, by kernel_rfl, by kernel_rfl, fun h => by cases h⟩
theorem fits37 : ty37.Fits Go.Proofs.Tryd.prog 37 := ⟨by kernel_rfl, by kernel_rfl, by kernel_rfl, fun h => by cases h⟩
theorem fits38 : ty38.Fits Go.Proofs.Tryd.prog 38 := ⟨by kernel_rfl, by kernel_rfl, by kernel_rfl, fun h => by cases h⟩
theorem fits41 : ty41.Fits Go.Proofs.Tryd.prog 41 := ⟨by kernel_rfl, by kernel_rfl, by kernel_rfl, fun h => by cases h⟩
theorem fits42 : ty42.Fits Go.Proofs.Tryd.prog 42 := ⟨by kernel_rfl, by kernel_rfl, by kernel_rfl, fun _ => ⟨by kernel_rfl, by kernel_rfl⟩⟩
theorem fits48 : ty48.Fits Go.Proofs.Tryd.prog 48 := ⟨by kernel_rfl, by kernel_rfl, by kernel_rfl, fun h => by cases h⟩
theorem fits49 : ty49.Fits Go.Proofs.Tryd.prog 49 := ⟨by kernel_rfl, by kernel_rfl, by kernel_rfl, fun h => by cases h⟩
theorem fits50 : ty50.Fits Go.Proofs.Tryd.prog 50 := ⟨by kernel_rfl, by kernel_rfl, by kernel_rfl, fun h => by cases h⟩
theorem fits55 : ty55.Fits Go.Proofs.Tryd.prog 55 := ⟨by kernel_rfl, by kernel_rfl, by kernel_rfl, fun h => by cases h⟩
theorem fits58 : ty58.Fits Go.Proofs.Tryd.prog 58 := ⟨by kernel_rfl, by kernel_rfl, by kernel_rfl, fun h => by cases h⟩
theorem fits60 : ty60.Fits Go.Proofs.Tryd.prog 60 := ⟨by kernel_rfl, by kernel_rfl, by kernel_rfl, fun h => by cases h⟩
theorem fits61 : ty61.Fits Go.Proofs.Tryd.prog 61 := ⟨by kernel_rfl, by kernel_rfl, by kernel_rfl, fun h => by cases h⟩
theorem fits62 : ty62.Fits Go.Proofs.Tryd.prog 62 := ⟨by kernel_rfl, by kernel_rfl, by kernel_rfl, fun h => by cases h⟩
theorem fits72 : ty72.Fits Go.Proofs.Tryd.prog 72 := ⟨by kernel_rfl, by kernel_rfl, by kernel_rfl, fun h => by cases h⟩
theorem fits83 : ty83.Fits Go.Proofs.Tryd.prog 83 := ⟨by kernel_rfl, by kernel_rfl, by kernel_rfl, fun h => by cases h⟩
theorem fits84 : ty84.Fits Go.Proofs.Tryd.prog 84 := ⟨by kernel_rfl, by kernel_rfl, by kernel_rfl, fun h => by cases h⟩
theorem fits92 : ty92.Fits Go.Proofs.Tryd.prog 92 := ⟨by kernel_rfl, by kernel_rfl, by kernel_rfl, fun h => by cases h⟩
theorem fits93 : ty93.Fits Go.Proofs.Tryd.prog 93 := ⟨by kernel_rfl, by kernel_rfl, by kernel_rfl, fun h => by cases h⟩
theorem fits94 : ty94.Fits Go.Proofs.Tryd.prog 94 := ⟨by kernel_rfl, by kernel_rfl, by kernel_rfl, fun h => by cases h⟩
theorem fits99 : ty99.Fits Go.Proofs.Tryd.prog 99 := ⟨by kernel_rfl, by kernel_rfl, by kernel_rfl, fun h => by cases h⟩
theorem fits101 : ty101.Fits Go.Proofs.Tryd.prog 101 := ⟨by kernel_rfl, by kernel_rfl, by kernel_rfl, fun h => by cases h⟩
theorem fits115 : ty115.Fits Go.Proofs.Tryd.prog 115 := ⟨by kernel_rfl, by kernel_rfl, by kernel_rfl, fun h => by cases h⟩
theorem fits116 : ty116.Fits Go.Proofs.Tryd.prog 116 := ⟨by kernel_rfl, by kernel_rfl, by kernel_rfl, fun h => by cases h⟩
theorem fits118 : ty118.Fits Go.Proofs.Tryd.prog 118 := ⟨by kernel_rfl, by kernel_rfl, by kernel_rfl, fun h => by cases h⟩
theorem fits119 : ty119.Fits Go.Proofs.Tryd.prog 119 := ⟨by kernel_rfl, by kernel_rfl, by kernel_rfl, fun h => by cases h⟩
theorem fits126 : ty126.Fits Go.Proofs.Tryd.prog 126 := ⟨by kernel_rfl, by kernel_rfl, by kernel_rfl, fun h => by cases h⟩
theorem fits135 : ty135.Fits Go.Proofs.Tryd.prog 135 := ⟨by kernel_rfl, by kernel_rfl, by kernel_rfl, fun h => by cases h⟩
theorem fits143 : ty143.Fits Go.Proofs.Tryd.prog 143 := ⟨by kernel_rfl, by kernel_rfl, by kernel_rfl, fun h => by cases h⟩
theorem fits144 : ty144.Fits Go.Proofs.Tryd.prog 144 := ⟨by kernel_rfl, by kernel_rfl, by kernel_rfl, fun h => by cases h⟩
theorem fits145 : ty145.Fits Go.Proofs.Tryd.prog 145 := ⟨by kernel_rfl, by kernel_rfl, by kernel_rfl, fun h => by cases h⟩
theorem fits152 : ty152.Fits Go.Proofs.Tryd.prog 152 := ⟨by kernel_rfl, by kernel_rfl, by kernel_rfl, fun h => by cases h⟩
theorem fits153 : ty153.Fits Go.Proofs.Tryd.prog 153 := ⟨by kernel_rfl, by kernel_rfl, by kernel_rfl, fun h => by cases h⟩
theorem tyTree_fits : tyTree.all (fun t x => x.Fits Go.Proofs.Tryd.prog t) := ⟨⟨⟨⟨⟨fits2, ⟨fits3, fits4⟩⟩, ⟨fits5, ⟨fits9, fits12⟩⟩⟩, ⟨⟨fits20, ⟨fits21, fits22⟩⟩, ⟨fits23, ⟨fits24, fits25⟩⟩⟩⟩, ⟨⟨⟨fits26, ⟨fits27, fits28⟩⟩, ⟨fits29, ⟨fits30, fits31⟩⟩⟩, ⟨⟨fits32, ⟨fits34, fits37⟩⟩, ⟨⟨fits38, fits41⟩, ⟨fits42, fits48⟩⟩⟩⟩⟩, ⟨⟨⟨⟨fits49, ⟨fits50, fits55⟩⟩, ⟨fits58, ⟨fits60, fits61⟩⟩⟩, ⟨⟨fits62, ⟨fits72, fits83⟩⟩, ⟨⟨fits84, fits92⟩, ⟨fits93, fits94⟩⟩⟩⟩, ⟨⟨⟨fits99, ⟨fits101, fits115⟩⟩, ⟨fits116, ⟨fits118, fits119⟩⟩⟩, ⟨⟨fits126, ⟨fits135, fits143⟩⟩, ⟨⟨fits144, fits145⟩, ⟨fits152, fits153⟩⟩⟩⟩⟩⟩

def tyTab : Tab where
  und t := match tyTree.get t with
    | some x => some x.und
    | none => none
  siz t := match tyTree.get t with
    | some x => some x.siz
    | none => none
  byt t := match tyTree.get t with
    | some x => some x.byt
    | none => none
  zer t := match tyTree.get t with
    | some x => some x.zer
    | none => none
  eqs t := match tyTree.get t with
    | some x => x.eqs
    | none => false
  fnk f := match Nat.ble 3 f with
    | true => Nat.ble f 87
    | false => false

end Go.Vid

/-
The program as the abstract machine knows it: its functions, its variables' cells, and that the machine's tables are the program's own.
-/
namespace Go.Vid
open Go.Proofs
set_option maxRecDepth 100000

noncomputable def fnTree : Tr Func := .n 45 (.n 24 (.n 13 (.n 8 (.n 5 (.n 4 (.l 3 Tryd.f3) (.l 4 Tryd.f4)) (.n 6 (.l 5 Tryd.f5) (.n 7 (.l 6 Tryd.f6) (.l 7 Tryd.f7)))) (.n 10 (.n 9 (.l 8 Tryd.f8) (.l 9 Tryd.f9)) (.n 11 (.l 10 Tryd.f10) (.n 12 (.l 11 Tryd.f11) (.l 12 Tryd.f12))))) (.n 18 (.n 15 (.n 14 (.l 13 Tryd.f13) (.l 14 Tryd.f14)) (.n 16 (.l 15 Tryd.f15) (.n 17 (.l 16 Tryd.f16) (.l 17 Tryd.f17)))) (.n 21 (.n 19 (.l 18 Tryd.f18) (.n 20 (.l 19 Tryd.f19) (.l 20 Tryd.f20))) (.n 22 (.l 21 Tryd.f21) (.n 23 (.l 22 Tryd.f22) (.l 23 Tryd.f23)))))) (.n 34 (.n 29 (.n 26 (.n 25 (.l 24 Tryd.f24) (.l 25 Tryd.f25)) (.n 27 (.l 26 Tryd.f26) (.n 28 (.l 27 Tryd.f27) (.l 28 Tryd.f28)))) (.n 31 (.n 30 (.l 29 Tryd.f29) (.l 30 Tryd.f30)) (.n 32 (.l 31 Tryd.f31) (.n 33 (.l 32 Tryd.f32) (.l 33 Tryd.f33))))) (.n 39 (.n 36 (.n 35 (.l 34 Tryd.f34) (.l 35 Tryd.f35)) (.n 37 (.l 36 Tryd.f36) (.n 38 (.l 37 Tryd.f37) (.l 38 Tryd.f38)))) (.n 42 (.n 40 (.l 39 Tryd.f39) (.n 41 (.l 40 Tryd.f40) (.l 41 Tryd.f41))) (.n 43 (.l 42 Tryd.f42) (.n 44 (.l 43 Tryd.f43) (.l 44 Tryd.f44))))))) (.n 66 (.n 55 (.n 50 (.n 47 (.n 46 (.l 45 Tryd.f45) (.l 46 Tryd.f46)) (.n 48 (.l 47 Tryd.f47) (.n 49 (.l 48 Tryd.f48) (.l 49 Tryd.f49)))) (.n 52 (.n 51 (.l 50 Tryd.f50) (.l 51 Tryd.f51)) (.n 53 (.l 52 Tryd.f52) (.n 54 (.l 53 Tryd.f53) (.l 54 Tryd.f54))))) (.n 60 (.n 57 (.n 56 (.l 55 Tryd.f55) (.l 56 Tryd.f56)) (.n 58 (.l 57 Tryd.f57) (.n 59 (.l 58 Tryd.f58) (.l 59 Tryd.f59)))) (.n 63 (.n 61 (.l 60 Tryd.f60) (.n 62 (.l 61 Tryd.f61) (.l 62 Tryd.f62))) (.n 64 (.l 63 Tryd.f63) (.n 65 (.l 64 Tryd.f64) (.l 65 Tryd.f65)))))) (.n 77 (.n 71 (.n 68 (.n 67 (.l 66 Tryd.f66) (.l 67 Tryd.f67)) (.n 69 (.l 68 Tryd.f68) (.n 70 (.l 69 Tryd.f69) (.l 70 Tryd.f70)))) (.n 74 (.n 72 (.l 71 Tryd.f71) (.n 73 (.l 72 Tryd.f72) (.l 73 Tryd.f73))) (.n 75 (.l 74 Tryd.f74) (.n 76 (.l 75 Tryd.f75) (.l 76 Tryd.f76))))) (.n 82 (.n 79 (.n 78 (.l 77 Tryd.f77) (.l 78 Tryd.f78)) (.n 80 (.l 79 Tryd.f79) (.n 81 (.l 80 Tryd.f80) (.l 81 Tryd.f81)))) (.n 85 (.n 83 (.l 82 Tryd.f82) (.n 84 (.l 83 Tryd.f83) (.l 84 Tryd.f84))) (.n 86 (.l 85 Tryd.f85) (.n 87 (.l 86 Tryd.f86) (.l 87 Tryd.f87)))))))
def FnFits (k : Nat) (fn : Func) : Prop := Tryd.prog.funcs[k]? = some fn ∧ fn.body.isSome = true ∧ (fn.name == "runtime.NumGoroutine") = false
theorem fnFits3 : FnFits 3 Tryd.f3 := ⟨Tryd.func3, by kernel_rfl, by kernel_rfl⟩
theorem fnFits4 : FnFits 4 Tryd.f4 := ⟨Tryd.func4, by kernel_rfl, by kernel_rfl⟩
theorem fnFits5 : FnFits 5 Tryd.f5 := ⟨Tryd.func5, by kernel_rfl, by kernel_rfl⟩
theorem fnFits6 : FnFits 6 Tryd.f6 := ⟨Tryd.func6, by kernel_rfl, by kernel_rfl⟩
theorem fnFits7 : FnFits 7 Tryd.f7 := ⟨Tryd.func7, by kernel_rfl, by kernel_rfl⟩
theorem fnFits8 : FnFits 8 Tryd.f8 := ⟨Tryd.func8, by kernel_rfl, by kernel_rfl⟩
theorem fnFits9 : FnFits 9 Tryd.f9 := ⟨Tryd.func9, by kernel_rfl, by kernel_rfl⟩
theorem fnFits10 : FnFits 10 Tryd.f10 := ⟨Tryd.func10, by kernel_rfl, by kernel_rfl⟩
theorem fnFits11 : FnFits 11 Tryd.f11 := ⟨Tryd.func11, by kernel_rfl, by kernel_rfl⟩
theorem fnFits12 : FnFits 12 Tryd.f12 := ⟨Tryd.func12, by kernel_rfl, by kernel_rfl⟩
theorem fnFits13 : FnFits 13 Tryd.f13 := ⟨Tryd.func13, by kernel_rfl, by kernel_rfl⟩
theorem fnFits14 : FnFits 14 Tryd.f14 := ⟨Tryd.func14, by kernel_rfl, by kernel_rfl⟩
theorem fnFits15 : FnFits 15 Tryd.f15 := ⟨Tryd.func15, by kernel_rfl, by kernel_rfl⟩
theorem fnFits16 : FnFits 16 Tryd.f16 := ⟨Tryd.func16, by kernel_rfl, by kernel_rfl⟩
theorem fnFits17 : FnFits 17 Tryd.f17 := ⟨Tryd.func17, by kernel_rfl, by kernel_rfl⟩
theorem fnFits18 : FnFits 18 Tryd.f18 := ⟨Tryd.func18, by kernel_rfl, by kernel_rfl⟩
theorem fnFits19 : FnFits 19 Tryd.f19 := ⟨Tryd.func19, by kernel_rfl, by kernel_rfl⟩
theorem fnFits20 : FnFits 20 Tryd.f20 := ⟨Tryd.func20, by kernel_rfl, by kernel_rfl⟩
theorem fnFits21 : FnFits 21 Tryd.f21 := ⟨Tryd.func21, by kernel_rfl, by kernel_rfl⟩
theorem fnFits22 : FnFits 22 Tryd.f22 := ⟨Tryd.func22, by kernel_rfl, by kernel_rfl⟩
theorem fnFits23 : FnFits 23 Tryd.f23 := ⟨Tryd.func23, by kernel_rfl, by kernel_rfl⟩
theorem fnFits24 : FnFits 24 Tryd.f24 := ⟨Tryd.func24, by kernel_rfl, by kernel_rfl⟩
theorem fnFits25 : FnFits 25 Tryd.f25 := ⟨Tryd.func25, by kernel_rfl, by kernel_rfl⟩
theorem fnFits26 : FnFits 26 Tryd.f26 := ⟨Tryd.func26, by kernel_rfl, by kernel_rfl⟩
theorem fnFits27 : FnFits 27 Tryd.f27 := ⟨Tryd.func27, by kernel_rfl, by kernel_rfl⟩
theorem fnFits28 : FnFits 28 Tryd.f28 := ⟨Tryd.func28, by kernel_rfl, by kernel_rfl⟩
theorem fnFits29 : FnFits 29 Tryd.f29 := ⟨Tryd.func29, by kernel_rfl, by kernel_rfl⟩
theorem fnFits30 : FnFits 30 Tryd.f30 := ⟨Tryd.func30, by kernel_rfl, by kernel_rfl⟩
theorem fnFits31 : FnFits 31 Tryd.f31 := ⟨Tryd.func31, by kernel_rfl, by kernel_rfl⟩
theorem fnFits32 : FnFits 32 Tryd.f32 := ⟨Tryd.func32, by kernel_rfl, by kernel_rfl⟩
theorem fnFits33 : FnFits 33 Tryd.f33 := ⟨Tryd.func33, by kernel_rfl, by kernel_rfl⟩
theorem fnFits34 : FnFits 34 Tryd.f34 := ⟨Tryd.func34, by kernel_rfl, by kernel_rfl⟩
theorem fnFits35 : FnFits 35 Tryd.f35 := ⟨Tryd.func35, by kernel_rfl, by kernel_rfl⟩
theorem fnFits36 : FnFits 36 Tryd.f36 := ⟨Tryd.func36, by kernel_rfl, by kernel_rfl⟩
theorem fnFits37 : FnFits 37 Tryd.f37 := ⟨Tryd.func37, by kernel_rfl, by kernel_rfl⟩
theorem fnFits38 : FnFits 38 Tryd.f38 := ⟨Tryd.func38, by kernel_rfl, by kernel_rfl⟩
theorem fnFits39 : FnFits 39 Tryd.f39 := ⟨Tryd.func39, by kernel_rfl, by kernel_rfl⟩
theorem fnFits40 : FnFits 40 Tryd.f40 := ⟨Tryd.func40, by kernel_rfl, by kernel_rfl⟩
theorem fnFits41 : FnFits 41 Tryd.f41 := ⟨Tryd.func41, by kernel_rfl, by kernel_rfl⟩
theorem fnFits42 : FnFits 42 Tryd.f42 := ⟨Tryd.func42, by kernel_rfl, by kernel_rfl⟩
theorem fnFits43 : FnFits 43 Tryd.f43 := ⟨Tryd.func43, by kernel_rfl, by kernel_rfl⟩
theorem fnFits44 : FnFits 44 Tryd.f44 := ⟨Tryd.func44, by kernel_rfl, by kernel_rfl⟩
theorem fnFits45 : FnFits 45 Tryd.f45 := ⟨Tryd.func45, by kernel_rfl, by kernel_rfl⟩
theorem fnFits46 : FnFits 46 Tryd.f46 := ⟨Tryd.func46, by kernel_rfl, by kernel_rfl⟩
theorem fnFits47 : FnFits 47 Tryd.f47 := ⟨Tryd.func47, by kernel_rfl, by kernel_rfl⟩
theorem fnFits48 : FnFits 48 Tryd.f48 := ⟨Tryd.func48, by kernel_rfl, by kernel_rfl⟩
theorem fnFits49 : FnFits 49 Tryd.f49 := ⟨Tryd.func49, by kernel_rfl, by kernel_rfl⟩
theorem fnFits50 : FnFits 50 Tryd.f50 := ⟨Tryd.func50, by kernel_rfl, by kernel_rfl⟩
theorem fnFits51 : FnFits 51 Tryd.f51 := ⟨Tryd.func51, by kernel_rfl, by kernel_rfl⟩
theorem fnFits52 : FnFits 52 Tryd.f52 := ⟨Tryd.func52, by kernel_rfl, by kernel_rfl⟩
theorem fnFits53 : FnFits 53 Tryd.f53 := ⟨Tryd.func53, by kernel_rfl, by kernel_rfl⟩
theorem fnFits54 : FnFits 54 Tryd.f54 := ⟨Tryd.func54, by kernel_rfl, by kernel_rfl⟩
theorem fnFits55 : FnFits 55 Tryd.f55 := ⟨Tryd.func55, by kernel_rfl, by kernel_rfl⟩
theorem fnFits56 : FnFits 56 Tryd.f56 := ⟨Tryd.func56, by kernel_rfl, by kernel_rfl⟩
theorem fnFits57 : FnFits 57 Tryd.f57 := ⟨Tryd.func57, by kernel_rfl, by kernel_rfl⟩
theorem fnFits58 : FnFits 58 Tryd.f58 := ⟨Tryd.func58, by kernel_rfl, by kernel_rfl⟩
theorem fnFits59 : FnFits 59 Tryd.f59 := ⟨Tryd.func59, by kernel_rfl, by kernel_rfl⟩
theorem fnFits60 : FnFits 60 Tryd.f60 := ⟨Tryd.func60, by kernel_rfl, by kernel_rfl⟩
theorem fnFits61 : FnFits 61 Tryd.f61 := ⟨Tryd.func61, by kernel_rfl, by kernel_rfl⟩
theorem fnFits62 : FnFits 62 Tryd.f62 := ⟨Tryd.func62, by kernel_rfl, by kernel_rfl⟩
theorem fnFits63 : FnFits 63 Tryd.f63 := ⟨Tryd.func63, by kernel_rfl, by kernel_rfl⟩
theorem fnFits64 : FnFits 64 Tryd.f64 := ⟨Tryd.func64, by kernel_rfl, by kernel_rfl⟩
theorem fnFits65 : FnFits 65 Tryd.f65 := ⟨Tryd.func65, by kernel_rfl, by kernel_rfl⟩
theorem fnFits66 : FnFits 66 Tryd.f66 := ⟨Tryd.func66, by kernel_rfl, by kernel_rfl⟩
theorem fnFits67 : FnFits 67 Tryd.f67 := ⟨Tryd.func67, by kernel_rfl, by kernel_rfl⟩
theorem fnFits68 : FnFits 68 Tryd.f68 := ⟨Tryd.func68, by kernel_rfl, by kernel_rfl⟩
theorem fnFits69 : FnFits 69 Tryd.f69 := ⟨Tryd.func69, by kernel_rfl, by kernel_rfl⟩
theorem fnFits70 : FnFits 70 Tryd.f70 := ⟨Tryd.func70, by kernel_rfl, by kernel_rfl⟩
theorem fnFits71 : FnFits 71 Tryd.f71 := ⟨Tryd.func71, by kernel_rfl, by kernel_rfl⟩
theorem fnFits72 : FnFits 72 Tryd.f72 := ⟨Tryd.func72, by kernel_rfl, by kernel_rfl⟩
theorem fnFits73 : FnFits 73 Tryd.f73 := ⟨Tryd.func73, by kernel_rfl, by kernel_rfl⟩
theorem fnFits74 : FnFits 74 Tryd.f74 := ⟨Tryd.func74, by kernel_rfl, by kernel_rfl⟩
theorem fnFits75 : FnFits 75 Tryd.f75 := ⟨Tryd.func75, by kernel_rfl, by kernel_rfl⟩
theorem fnFits76 : FnFits 76 Tryd.f76 := ⟨Tryd.func76, by kernel_rfl, by kernel_rfl⟩
theorem fnFits77 : FnFits 77 Tryd.f77 := ⟨Tryd.func77, by kernel_rfl, by kernel_rfl⟩
theorem fnFits78 : FnFits 78 Tryd.f78 := ⟨Tryd.func78, by kernel_rfl, by kernel_rfl⟩
theorem fnFits79 : FnFits 79 Tryd.f79 := ⟨Tryd.func79, by kernel_rfl, by kernel_rfl⟩
theorem fnFits80 : FnFits 80 Tryd.f80 := ⟨Tryd.func80, by kernel_rfl, by kernel_rfl⟩
theorem fnFits81 : FnFits 81 Tryd.f81 := ⟨Tryd.func81, by kernel_rfl, by kernel_rfl⟩
theorem fnFits82 : FnFits 82 Tryd.f82 := ⟨Tryd.func82, by kernel_rfl, by kernel_rfl⟩
theorem fnFits83 : FnFits 83 Tryd.f83 := ⟨Tryd.func83, by kernel_rfl, by kernel_rfl⟩
theorem fnFits84 : FnFits 84 Tryd.f84 := ⟨Tryd.func84, by kernel_rfl, by kernel_rfl⟩
theorem fnFits85 : FnFits 85 Tryd.f85 := ⟨Tryd.func85, by kernel_rfl, by kernel_rfl⟩
theorem fnFits86 : FnFits 86 Tryd.f86 := ⟨Tryd.func86, by kernel_rfl, by kernel_rfl⟩
theorem fnFits87 : FnFits 87 Tryd.f87 := ⟨Tryd.func87, by kernel_rfl, by kernel_rfl⟩
theorem fnTree_fits : fnTree.all FnFits := ⟨⟨⟨⟨⟨⟨fnFits3, fnFits4⟩, ⟨fnFits5, ⟨fnFits6, fnFits7⟩⟩⟩, ⟨⟨fnFits8, fnFits9⟩, ⟨fnFits10, ⟨fnFits11, fnFits12⟩⟩⟩⟩, ⟨⟨⟨fnFits13, fnFits14⟩, ⟨fnFits15, ⟨fnFits16, fnFits17⟩⟩⟩, ⟨⟨fnFits18, ⟨fnFits19, fnFits20⟩⟩, ⟨fnFits21, ⟨fnFits22, fnFits23⟩⟩⟩⟩⟩, ⟨⟨⟨⟨fnFits24, fnFits25⟩, ⟨fnFits26, ⟨fnFits27, fnFits28⟩⟩⟩, ⟨⟨fnFits29, fnFits30⟩, ⟨fnFits31, ⟨fnFits32, fnFits33⟩⟩⟩⟩, ⟨⟨⟨fnFits34, fnFits35⟩, ⟨fnFits36, ⟨fnFits37, fnFits38⟩⟩⟩, ⟨⟨fnFits39, ⟨fnFits40, fnFits41⟩⟩, ⟨fnFits42, ⟨fnFits43, fnFits44⟩⟩⟩⟩⟩⟩, ⟨⟨⟨⟨⟨fnFits45, fnFits46⟩, ⟨fnFits47, ⟨fnFits48, fnFits49⟩⟩⟩, ⟨⟨fnFits50, fnFits51⟩, ⟨fnFits52, ⟨fnFits53, fnFits54⟩⟩⟩⟩, ⟨⟨⟨fnFits55, fnFits56⟩, ⟨fnFits57, ⟨fnFits58, fnFits59⟩⟩⟩, ⟨⟨fnFits60, ⟨fnFits61, fnFits62⟩⟩, ⟨fnFits63, ⟨fnFits64, fnFits65⟩⟩⟩⟩⟩, ⟨⟨⟨⟨fnFits66, fnFits67⟩, ⟨fnFits68, ⟨fnFits69, fnFits70⟩⟩⟩, ⟨⟨fnFits71, ⟨fnFits72, fnFits73⟩⟩, ⟨fnFits74, ⟨fnFits75, fnFits76⟩⟩⟩⟩, ⟨⟨⟨fnFits77, fnFits78⟩, ⟨fnFits79, ⟨fnFits80, fnFits81⟩⟩⟩, ⟨⟨fnFits82, ⟨fnFits83, fnFits84⟩⟩, ⟨fnFits85, ⟨fnFits86, fnFits87⟩⟩⟩⟩⟩⟩⟩

noncomputable def tab : Tab := { tyTab with fnk := fun f => match fnTree.get f with
  | some _ => true
  | none => false }

theorem tab_ok : tab.Ok Tryd.prog where
  und t d h := by
    simp only [tab, tyTab] at h
    split at h <;> cases h
    exact (Tr.get_all tyTree_fits ‹_›).1
  siz t n h := by
    simp only [tab, tyTab] at h
    split at h <;> cases h
    have := (Tr.get_all tyTree_fits ‹_›).2.1
    cases hi : Tryd.prog.info? t with
    | none => simp [hi] at this
    | some i => simp [hi] at this; exact ⟨i, rfl, this.1⟩
  byt t n h := by
    simp only [tab, tyTab] at h
    split at h <;> cases h
    have := (Tr.get_all tyTree_fits ‹_›).2.1
    cases hi : Tryd.prog.info? t with
    | none => simp [hi] at this
    | some i => simp [hi] at this; exact ⟨i, rfl, this.2⟩
  zer t a h := by
    simp only [tab, tyTab] at h
    split at h <;> cases h
    have := (Tr.get_all tyTree_fits ‹_›).2.2.1
    cases hi : Tryd.prog.info? t with
    | none => simp [hi] at this
    | some i =>
      simp only [hi, Option.bind_some] at this
      cases hz : i.zero with
      | none => simp [hz] at this
      | some z => simp only [hz, Option.bind_some] at this; exact ⟨i, z, rfl, hz, this⟩
  eqs t h := by
    simp only [tab, tyTab] at h
    split at h
    · exact (Tr.get_all tyTree_fits ‹_›).2.2.2 h
    · cases h
  fnk f h := by
    simp only [tab] at h
    split at h
    · have := Tr.get_all fnTree_fits ‹_›
      exact ⟨_, this.1, this.2.1, this.2.2⟩
    · cases h

/-- Functions that write where their caller can see it: they take over own objects and give them back. -/
def inl : Nat → Nat
  | 26 | 57 | 75 | 76 | 85 => 2
  | 65 => 1
  | _ => 0

def gTable : List AV := [.int .u8 0, .bool true, .int .u32 16, .bool false, .bool false, .int .u8 2, .bool true, .int .u32 0, .bool false, .bool true, .int .u8 0, .bool false, .int .u32 2, .bool false, .bool false, .int .u8 0, .bool true, .int .u32 16, .bool false, .bool false, .int .u8 0, .bool true, .int .u32 16, .bool false, .bool false, .int .u8 0, .bool true, .int .u32 16, .bool false, .bool false, .int .u8 0, .bool true, .int .u32 16, .bool false, .bool false, .int .u8 0, .bool true, .int .u32 16, .bool false, .bool false, .int .u8 2, .bool false, .int .u32 1, .bool false, .bool true, .int .u8 2, .bool false, .int .u32 2, .bool false, .bool true, .int .u8 2, .bool true, .int .u32 3, .bool false, .bool true, .int .u8 0, .bool true, .int .u32 16, .bool false, .bool false, .int .u8 0, .bool false, .int .u32 3, .bool false, .bool false]
def gTexts : List AV := [.str ⟨⟨[116, 98, 115]⟩⟩, .str ⟨⟨[118, 101, 114, 115, 105, 111, 110]⟩⟩, .str ⟨⟨[115, 101, 114, 105, 97, 108]⟩⟩, .str ⟨⟨[97, 108, 103, 111, 114, 105, 116, 104, 109]⟩⟩, .str ⟨⟨[105, 115, 115, 117, 101, 114]⟩⟩, .str ⟨⟨[118, 97, 108, 105, 100, 105, 116, 121]⟩⟩, .str ⟨⟨[115, 117, 98, 106, 101, 99, 116]⟩⟩, .str ⟨⟨[107, 101, 121]⟩⟩, .str ⟨⟨[105, 115, 115, 117, 101, 114, 45, 105, 100]⟩⟩, .str ⟨⟨[115, 117, 98, 106, 101, 99, 116, 45, 105, 100]⟩⟩, .str ⟨⟨[101, 120, 116, 101, 110, 115, 105, 111, 110, 115]⟩⟩, .str ⟨⟨[111, 117, 116, 101, 114]⟩⟩, .str ⟨⟨[115, 105, 103, 110, 97, 116, 117, 114, 101]⟩⟩]
def gSeq : List AV := [.int .u8 0, .bool true, .int .u32 16]
def gInt : List AV := [.int .u8 0, .bool false, .int .u32 2]

def glob : Nat → Option (List AV)
  | 1 => some gTable
  | 2 => some gSeq
  | 3 => some gInt
  | _ => none

noncomputable def env : Env := ⟨tab, glob, fnTree.get, inl⟩

theorem env_ok : env.Ok Tryd.prog where
  tab := tab_ok
  fb f fn h := (Tr.get_all fnTree_fits h).1
  mixed := by kernel_rfl

end Go.Vid

/-
Words for trees: shapes of answers; how data reads: bytes, ints, elements.
-/
namespace Go.Vid
open Go.Proofs
set_option maxRecDepth 100000

/-- A bool that is told at once. -/
def shBool : Sh (AOut × St) := .or (.one (.ret (.bool true), ⟨[], 0⟩)) (.one (.ret (.bool false), ⟨[], 0⟩))

abbrev Xf (f : FuncId) (args : List AV) (σ : St) (out : AOut) (σ' : St) : Prop := XferOk Tryd.prog glob f args σ out σ'
abbrev Cl (f : FuncId) (args : List AV) (σ : St) (out : AOut) (σ' : St) : Prop := CallOk Tryd.prog glob f args σ out σ'
abbrev Cd (k : Nat) (c : Code) (fr : Fr) (σ : St) (ae : AExit) (fr' : Fr) (σ' : St) : Prop := CodeOkK Tryd.prog glob k c fr σ ae fr' σ'
abbrev Sm (f : FuncId) (args : List AV) (v : AV) : Prop := XferOk Tryd.prog glob f args ⟨[], 0⟩ (.ret v) ⟨[], 0⟩
abbrev oi (x : Int) : Option AObj := some (.cells [.int .i64 x] 3 false)
abbrev o76 : Option AObj := some (.cells [.func (.func 76) [] [.ref 1 0, .ref 2 0]] 143 false)
abbrev o85 : Option AObj := some (.cells [.func (.func 85) [] [.ref 0 0, .ref 3 0]] 143 false)

/-- The skeleton of nothing, its cells. -/
abbrev nilS : AV := .lsl true 0 [] 0 (some 0)
abbrev skel0 : List AV := [.int .i64 0, nilS, nilS, nilS, nilS, nilS, nilS, nilS, nilS, nilS, nilS, nilS, nilS, nilS]

/-- A path of a part: none, or 0 and an index. -/
def pc (k : Int) : List AV := if k < 0 then [] else [.int .i64 0, .int .i64 k]
def pl (k : Int) : Nat := if k < 0 then 0 else 2
abbrev pS (k : Int) : AV := .lsl (decide (k < 0)) 0 (pc k) (pl k) (some (pl k))
abbrev p1S (k : Int) : AV := .lsl false 0 [.int .i64 k] 1 (some 1)
abbrev skC (v k1 k2 k3 k4 k5 k6 k7 k8 k9 k10 : Int) : List AV := [.int .i64 v, p1S 0, pS k1, pS k2, pS k3, pS k4, pS k5, pS k6, pS k7, pS k8, pS k9, pS k10, p1S 1, p1S 2]
/-- The answer of skeletons.fault. -/
def shF42 : Sh (AOut × St) := .bool fun nl => .cells fun cs => .nat fun len => .cap fun cp => .int fun e => .one (.ret (.tup [.agg skel0, .agg [.lsl nl 0 cs len cp, .int .i64 e]]), ⟨[], 0⟩)

/-- By a tree: a function that gives data. -/
theorem sum_vc {tb : List (FuncId × Sc)} {f : FuncId} {args : List AV} {v : AV} {p : Prop} (h : dataT Tryd.prog env tb f args (fun o => o = .ret v) = p) (hp : p) : Sm f args v := by
  obtain ⟨out, rfl, hx⟩ := dataT_ok env_ok (h ▸ hp)
  exact hx

/-- By a tree: it gives some data of which something holds. -/
theorem sum_ex {tb : List (FuncId × Sc)} {f : FuncId} {args : List AV} (K : AV → Prop) {p : Prop} (h : dataT Tryd.prog env tb f args (fun o => ∃ v, o = .ret v ∧ K v) = p) (hp : p) : ∃ v, K v ∧ Sm f args v := by
  obtain ⟨out, ⟨v, rfl, hk⟩, hx⟩ := dataT_ok env_ok (h ▸ hp)
  exact ⟨v, hk, hx⟩

/-- By a tree: a function with a store. -/
theorem call_vc {tb : List (FuncId × Sc)} {m : Nat} {f : FuncId} {args : List AV} {σ s : St} {o : AOut} (n : Nat) {p : Prop} (h : fnT Tryd.prog env tb m f args σ (fun out σ' => out = o ∧ σ'.cut n = s) = p) (hp : p) (hn : σ.objs.length ≤ n) (ho : below n o.val = true) : Cl f args σ o s := by
  obtain ⟨out, σ', ⟨rfl, rfl⟩, hc⟩ := fnT_ok env_ok m f args σ _ (h ▸ hp)
  exact hc.cut n hn ho

theorem and_t {a : Prop} {b : Prop} (h : a) (k : b) : a ∧ b := ⟨h, k⟩

inductive El where
  | mk (c : Int) (k : Bool) (n : Int) (bs : List Int) (subs : List El)

def El.subs : El → List El
  | .mk _ _ _ _ s => s

section
variable {p : El → Prop} (h : ∀ c k n bs subs, (∀ e ∈ subs, p e) → p (.mk c k n bs subs))
include h
mutual
theorem El.ind : ∀ e, p e
  | .mk c k n bs subs => h c k n bs subs (El.indL subs)
theorem El.indL : ∀ (l : List El), ∀ e ∈ l, p e
  | [], _, hm => by simp at hm
  | x :: xs, e, hm => by
    by_cases he : e = x
    · rw [he]; exact El.ind x
    · exact El.indL xs e (by simpa [he] using hm)
end
end

def capOk (len : Nat) (cap : Option Nat) : Prop := ∀ c, cap = some c → len ≤ c

/-- A slice of numbers, as data. -/
def SI (k : IntKind) (l : List Int) (a : AV) : Prop := ∃ nl ex cap, a = .lsl nl 0 (l.map (AV.int k) ++ ex) l.length cap ∧ capOk l.length cap ∧ l.length < 2 ^ 48 ∧ (nl = true → l = [])
/-- .. without spare capacity. -/
def SX (k : IntKind) (l : List Int) (a : AV) : Prop := ∃ nl ex, a = .lsl nl 0 (l.map (AV.int k) ++ ex) l.length (some l.length) ∧ l.length < 2 ^ 48 ∧ (nl = true → l = [])

theorem SX.si {k : IntKind} {l : List Int} {a : AV} (h : SX k l a) : SI k l a := by
  obtain ⟨nl, ex, rfl, h1, h2⟩ := h
  exact ⟨nl, ex, some l.length, rfl, fun c hc => by cases hc; exact Nat.le_refl _, h1, h2⟩

mutual
def ElA : El → List AV → Prop
  | .mk c k n bs subs, cells => ∃ b nl cs cap, cells = [.int .u8 c, .bool k, .int .u32 n, b, .lsl nl 0 cs subs.length cap] ∧ SI .u8 bs b ∧ capOk subs.length cap ∧ subs.length < 2 ^ 48 ∧ (nl = true → subs = []) ∧ ElsA subs cs
def ElsA : List El → List AV → Prop
  | [], _ => True
  | e :: es, cs => ∃ h t, cs = h ++ t ∧ ElA e h ∧ ElsA es t
end

/-- An element's cells. -/
theorem ElA.out {c : Int} {k : Bool} {n : Int} {bs : List Int} {subs : List El} {cells : List AV} (h : ElA (.mk c k n bs subs) cells) :
    ∃ nl1 ex1 cp1 nl2 cs2 cp2, cells = [.int .u8 c, .bool k, .int .u32 n, .lsl nl1 0 (bs.map (AV.int .u8) ++ ex1) bs.length cp1, .lsl nl2 0 cs2 subs.length cp2] ∧
      capOk bs.length cp1 ∧ bs.length < 2 ^ 48 ∧ (nl1 = true → bs = []) ∧ capOk subs.length cp2 ∧ subs.length < 2 ^ 48 ∧ (nl2 = true → subs = []) ∧ ElsA subs cs2 := by
  simp only [ElA] at h
  obtain ⟨b, nl2, cs2, cp2, rfl, ⟨nl1, ex1, cp1, rfl, h1, h2, h3⟩, h4⟩ := h
  exact ⟨nl1, ex1, cp1, nl2, cs2, cp2, rfl, h1, h2, h3, h4⟩

theorem ElA.len {e : El} {cells : List AV} (h : ElA e cells) : cells.length = 5 := by
  cases e
  obtain ⟨_, _, _, _, _, _, rfl, _⟩ := h.out
  rfl

theorem ElsA.at {l : List El} {cs : List AV} (h : ElsA l cs) {i : Nat} (hi : i < l.length) : ∃ c t, cs.drop (i * 5) = c ++ t ∧ ElA l[i] c ∧ ElsA (l.drop (i + 1)) t := by
  induction l generalizing cs i with
  | nil => simp at hi
  | cons e es ih =>
    simp only [ElsA] at h
    obtain ⟨c, t, rfl, he, hes⟩ := h
    cases i with
    | zero => exact ⟨c, t, by simp, he, by simpa using hes⟩
    | succ i =>
      obtain ⟨c2, t2, h1, h2, h3⟩ := ih hes (by simpa using hi)
      refine ⟨c2, t2, ?_, by simpa using h2, by simpa using h3⟩
      rw [show (i + 1) * 5 = c.length + i * 5 by have := he.len; omega, ← List.drop_drop, List.drop_left]
      exact h1

theorem ElsA.drop {l : List El} {cs : List AV} (h : ElsA l cs) : ∀ (i : Nat), ElsA (l.drop i) (cs.drop (i * 5)) := by
  induction l generalizing cs with
  | nil => intro i; simp [ElsA]
  | cons e es ih =>
    intro i
    simp only [ElsA] at h
    obtain ⟨c, t, rfl, he, hes⟩ := h
    cases i with
    | zero => simpa [ElsA] using ⟨c, t, rfl, he, hes⟩
    | succ i =>
      have := ih hes i
      have e1 : List.drop ((i + 1) * 5) (c ++ t) = List.drop (i * 5) t := by
        rw [show (i + 1) * 5 = c.length + i * 5 by have := he.len; omega, ← List.drop_drop, List.drop_left]
      rw [e1]
      exact this

/-! rows of numbers -/
@[simp] theorem tagLeL_map {K : Nat} {k : IntKind} : ∀ (l : List Int), tagLeL K (l.map (AV.int k)) = true
  | [] => rfl
  | _ :: l => by simp only [List.map_cons, tagLeL, tagLe, tagLeL_map l, Bool.and_self]

theorem tagLeL_append {K : Nat} : ∀ {a b : List AV}, tagLeL K (a ++ b) = (tagLeL K a && tagLeL K b)
  | [], b => by simp [tagLeL]
  | x :: a, b => by simp only [List.cons_append, tagLeL, tagLeL_append, Bool.and_assoc]

theorem putL_map {k : IntKind} {l : List Int} {i : Nat} {x : Int} (h : i < l.length) : putL (l.map (AV.int k)) i [.int k x] = (l.set i x).map (AV.int k) := by
  unfold putL
  rw [List.set_eq_take_append_cons_drop, if_pos h]
  simp [List.map_take, List.map_drop]

theorem take_set {l : List Int} {i : Nat} {x : Int} (h : i < l.length) : (l.set i x).take (i + 1) = l.take i ++ [x] := by
  rw [List.set_eq_take_append_cons_drop, if_pos h, List.take_append]
  have : (l.take i).length = i := by simp; omega
  simp [this, List.take_of_length_le]

theorem madeRow_zero {k : IntKind} (n : Nat) : madeRow [.int k 0] n = (List.replicate n (0 : Int)).map (AV.int k) := by
  unfold madeRow
  apply List.ext_getElem
  · simp
  · intro i h1 h2
    simp [Nat.mod_one]

/-! less is told -/
def leKv : List (Nat × AV) → List (Nat × AV) → Prop
  | [], [] => True
  | (k, v) :: r, (k2, v2) :: r2 => k2 = k ∧ (v2 = v ∨ v2 = .any) ∧ leKv r r2
  | _, _ => False

def leOs : List (Option AObj) → List (Option AObj) → Prop
  | [], [] => True
  | [], o2 :: r2 => o2 = none ∧ leOs [] r2
  | o :: r, o2 :: r2 => (o2 = o ∨ o2 = none) ∧ leOs r r2
  | _, [] => False

theorem leKv_find : ∀ {a b : List (Nat × AV)}, leKv a b → ∀ j v, findN b j = some v → findN a j = some v ∨ v = .any
  | [], [], _, j, v, h => by simp [findN] at h
  | (k, x) :: r, (k2, x2) :: r2, hl, j, v, h => by
    simp only [leKv] at hl
    obtain ⟨rfl, h2, h3⟩ := hl
    simp only [findN] at h ⊢
    split at h
    · cases h
      rcases h2 with rfl | rfl
      · exact .inl rfl
      · exact .inr rfl
    · exact leKv_find h3 j v h
  | [], _ :: _, hl, _, _, _ => by simp [leKv] at hl
  | _ :: _, [], hl, _, _, _ => by simp [leKv] at hl

theorem leOs_get : ∀ {a b : List (Option AObj)}, leOs a b → a.length ≤ b.length ∧ ∀ (i : Nat) (o : AObj), b[i]? = some (some o) → a[i]? = some (some o)
  | [], [], _ => by simp
  | [], o2 :: r2, h => by
    simp only [leOs] at h
    obtain ⟨rfl, h⟩ := h
    obtain ⟨_, q⟩ := leOs_get h
    refine ⟨by simp, fun i o hi => ?_⟩
    cases i with
    | zero => simp at hi
    | succ i => simp at hi; have := q i o hi; simp at this
  | o :: r, o2 :: r2, h => by
    simp only [leOs] at h
    obtain ⟨h1, h⟩ := h
    obtain ⟨q1, q⟩ := leOs_get h
    refine ⟨by simpa using q1, fun i x hi => ?_⟩
    cases i with
    | zero =>
      simp at hi
      subst hi
      rcases h1 with h1 | h1
      · simp [h1]
      · cases h1
    | succ i => simp at hi; simpa using q i x hi
  | _ :: _, [], h => by simp [leOs] at h

theorem CodeOkK.weak {P : Program} {G : Nat → Option (List AV)} {k N : Nat} {c : Code} {fr : Fr} {σ : St} {ae : AExit} {kvs kvs2 : List (Nat × AV)} {os os2 : List (Option AObj)} {d : Nat} (h : CodeOkK P G k c fr σ ae (frOf N kvs) ⟨os, d⟩) (h1 : leKv kvs kvs2) (h2 : leOs os os2) :
    CodeOkK P G k c fr σ ae (frOf N kvs2) ⟨os2, d⟩ := by
  intro C C0 a hR hX
  refine wp_mono (h C C0 a hR hX) fun e a w ⟨C', hw, hX', hR', he⟩ => ⟨C', hw, hX', ?_, he⟩
  obtain ⟨q1, q2⟩ := leOs_get h2
  have hg : ∀ i o, (⟨os2, d⟩ : St).g i = some o → (⟨os, d⟩ : St).g i = some o := by
    intro i o ho
    simp only [St.g] at ho ⊢
    split at ho
    · rename_i x hx
      subst ho
      rw [q2 i o hx]
    · cases ho
  refine ⟨hR'.inv.sub hg, fun id hid => hR'.fresh id (Nat.le_trans q1 hid), ?_, hR'.defs⟩
  have hlen : (frTs 0 N kvs).length = a.tmps.toList.length := hR'.tmps.length
  have hN : ∀ (n i : Nat) (kvs : List (Nat × AV)), (frTs i n kvs).length = n := by
    intro n
    induction n with
    | zero => intro _ _; rfl
    | succ n ih => intro i kvs; simp [frTs, ih]
  rw [hN] at hlen
  simp only [frOf]
  rw [hlen]
  refine rdL_fr _ _ fun j v u hj hu => ?_
  rw [Nat.zero_add] at hj
  rcases leKv_find h1 j v hj with h | h
  · have hget : ∀ (n i j : Nat), j < n → (frTs i n kvs)[j]? = some (match findN kvs (i + j) with | some v => v | none => .any) := by
      intro n
      induction n with
      | zero => intro _ j hj; omega
      | succ n ih =>
        intro i j hj
        cases j with
        | zero => rfl
        | succ j =>
          simp only [frTs, List.getElem?_cons_succ]
          rw [ih (i + 1) j (by omega), show i + 1 + j = i + (j + 1) by omega]
    have hjN : j < N := by
      have := (List.getElem?_eq_some_iff.1 hu).1
      omega
    obtain ⟨y, hy, hr⟩ := hR'.tmps.get (hget N 0 j hjN)
    rw [Nat.zero_add, h] at hr
    rw [hu] at hy
    cases hy
    exact hr
  · subst h; simp only [Rd]

theorem wrap_small {x : Int} (h0 : -(2 ^ 62) ≤ x) (h1 : x < 2 ^ 62) : IntKind.i64.wrap x = x := by
  rw [IntKind.wrap_i64]; omega

end Go.Vid

/-
Words for the shapes of the reader's loop.
-/
namespace Go.Vid

/-- A reader with another count. -/
def rdr (o : Option AObj) (cnt : Int) : Option AObj := match o with
  | some (.cells (s :: _) t gr) => some (.cells [s, .int .i64 cnt] t gr)
  | o => o

/-- An element with other bytes. -/
def ebyt (o : Option AObj) (v : AV) : Option AObj := match o with
  | some (.cells [a, b, c, _, d] t g) => some (.cells [a, b, c, v, d] t g)
  | _ => none

/-- An element with other elements below. -/
def esub (o : Option AObj) (v : AV) : Option AObj := match o with
  | some (.cells (a :: b :: c :: d :: _) t gr) => some (.cells [a, b, c, d, v] t gr)
  | o => o

/-- A function that is handed data and gives data, calls inlined to a depth. -/
def dataN (P : Program) (E : Env) (tb : List (FuncId × Sc)) (n : Nat) (f : FuncId) (args : List AV) (K : AOut → Prop) : Prop :=
  fnT P E tb n f args ⟨[], 0⟩ fun out σ1 => match Nat.beq σ1.dep 0 with
    | true => shutT (scOf tb f).lax σ1 out K
    | false => False

theorem dataN_ok {P : Program} {E : Env} (hE : E.Ok P) {tb : List (FuncId × Sc)} {n : Nat} {f : FuncId} {args : List AV} {K : AOut → Prop} (h : dataN P E tb n f args K) : ∃ out, K out ∧ XferOk P E.G f args ⟨[], 0⟩ out ⟨[], 0⟩ := by
  obtain ⟨out, σ1, hk, hc⟩ := fnT_ok hE n f args _ _ h
  split at hk <;> try exact hk.elim
  rename_i hd
  obtain ⟨out', ho, hk⟩ := shutT_ok hk
  exact ⟨out', hk, hc.xfer.shut (Nat.eq_of_beq_eq_true hd) ho⟩

/-- The same program; skeletons.Of and what it calls are handed own objects for the time being. -/
noncomputable def env2 : Env := { env with pol := fun f => match hasN [20, 37, 58, 43, 44, 46, 45, 42, 47, 60, 78, 61, 79, 62, 21, 22, 27, 28] f with
  | true => 2
  | false => env.pol f }

theorem env2_ok : env2.Ok Go.Proofs.Tryd.prog := { env_ok with }
end Go.Vid
