/-
elements.Check and what it calls: summaries.
-/
import Derived.Test.YtnjlocjikfbgdaaDoorKD
set_option linter.all false
namespace Go.Vid
open Go.Proofs
set_option maxRecDepth 100000
section
open AExit AOut AV IntKind
theorem vc77 (ac an : Int) (ak : Bool) (K : AOut → Prop) : (dataT Tryd.prog env [(77, { ops := [(1, [(3, Kd.b)])] })] 77 [agg [int u8 ac, AV.bool ak, int u32 an]] K) =
    (br (decide (ac > (3 : Int))) (K (AOut.ret (int i64 1))) (br (decide (an > (268435455 : Int))) (K (AOut.ret (int i64 1))) (br (ac != (0 : Int)) (K (AOut.ret (int i64 0))) (br (an == (0 : Int)) (K (AOut.ret (int i64 9))) (br (an == (16 : Int)) (br (an == (16 : Int)) (br (!ak) (K (AOut.ret (int i64 9))) (K (AOut.ret (int i64 0)))) (K (AOut.ret (int i64 0)))) (br (an == (17 : Int)) (br (!ak) (K (AOut.ret (int i64 9))) (K (AOut.ret (int i64 0)))) (K (AOut.ret (int i64 0))))))))) := by kernel_rfl
theorem vc76 (ec en d cnt lv : Int) (ek nle1 nle2 : Bool) (lene1 lene2 : Nat) (cse1 cse2 : List AV) (cpe1 cpe2 : Option Nat) (K : AOut → St → Prop) : (fnT Tryd.prog env [(76, { ops := [(4, [(3, Kd.b), (9, Kd.b), (14, Kd.b)])] })] 9 76 [agg [int u8 ec, AV.bool ek, int u32 en, lsl nle1 0 cse1 lene1 cpe1, lsl nle2 0 cse2 lene2 cpe2], int i64 d, ref 0 0, ref 1 0] ⟨[oi cnt, oi lv], 0⟩ K) =
    (∃ z1, Sm 77 [agg [int u8 ec, AV.bool ek, int u32 en]] ((int i64 z1)) ∧ br (z1 != (0 : Int)) (K (AOut.ret (int i64 z1)) ⟨[oi cnt, oi lv, some (AObj.cells [int u8 ec, AV.bool ek, int u32 en, lsl nle1 0 cse1 lene1 cpe1, lsl nle2 0 cse2 lene2 cpe2] 32 false)], 0⟩) (br ek (br (decide ((↑lene1 : Int) > (0 : Int))) (K (AOut.ret (int i64 1)) ⟨[oi cnt, oi lv, some (AObj.cells [int u8 ec, AV.bool ek, int u32 en, lsl nle1 0 cse1 lene1 cpe1, lsl nle2 0 cse2 lene2 cpe2] 32 false)], 0⟩) (br (!ek) (br (decide ((↑lene2 : Int) > (0 : Int))) (K (AOut.ret (int i64 1)) ⟨[oi cnt, oi lv, some (AObj.cells [int u8 ec, AV.bool ek, int u32 en, lsl nle1 0 cse1 lene1 cpe1, lsl nle2 0 cse2 lene2 cpe2] 32 false)], 0⟩) (br (decide (d > (16 : Int))) (K (AOut.ret (int i64 12)) ⟨[oi cnt, oi lv, some (AObj.cells [int u8 ec, AV.bool ek, int u32 en, lsl nle1 0 cse1 lene1 cpe1, lsl nle2 0 cse2 lene2 cpe2] 32 false)], 0⟩) (br (cnt == (8192 : Int)) (K (AOut.ret (int i64 3)) ⟨[oi cnt, oi lv, some (AObj.cells [int u8 ec, AV.bool ek, int u32 en, lsl nle1 0 cse1 lene1 cpe1, lsl nle2 0 cse2 lene2 cpe2] 32 false)], 0⟩) (K (AOut.ret (int i64 0)) ⟨[oi ((wrap i64 (cnt + (1 : Int)))), oi ((if d > lv then d else lv)), some (AObj.cells [int u8 ec, AV.bool ek, int u32 en, lsl nle1 0 cse1 lene1 cpe1, lsl nle2 0 cse2 lene2 cpe2] 32 false)], 0⟩)))) (br (decide (d > (16 : Int))) (K (AOut.ret (int i64 12)) ⟨[oi cnt, oi lv, some (AObj.cells [int u8 ec, AV.bool ek, int u32 en, lsl nle1 0 cse1 lene1 cpe1, lsl nle2 0 cse2 lene2 cpe2] 32 false)], 0⟩) (br (cnt == (8192 : Int)) (K (AOut.ret (int i64 3)) ⟨[oi cnt, oi lv, some (AObj.cells [int u8 ec, AV.bool ek, int u32 en, lsl nle1 0 cse1 lene1 cpe1, lsl nle2 0 cse2 lene2 cpe2] 32 false)], 0⟩) (K (AOut.ret (int i64 0)) ⟨[oi ((wrap i64 (cnt + (1 : Int)))), oi ((if d > lv then d else lv)), some (AObj.cells [int u8 ec, AV.bool ek, int u32 en, lsl nle1 0 cse1 lene1 cpe1, lsl nle2 0 cse2 lene2 cpe2] 32 false)], 0⟩))))) (br (!ek) (br (decide ((↑lene2 : Int) > (0 : Int))) (K (AOut.ret (int i64 1)) ⟨[oi cnt, oi lv, some (AObj.cells [int u8 ec, AV.bool ek, int u32 en, lsl nle1 0 cse1 lene1 cpe1, lsl nle2 0 cse2 lene2 cpe2] 32 false)], 0⟩) (br (decide (d > (16 : Int))) (K (AOut.ret (int i64 12)) ⟨[oi cnt, oi lv, some (AObj.cells [int u8 ec, AV.bool ek, int u32 en, lsl nle1 0 cse1 lene1 cpe1, lsl nle2 0 cse2 lene2 cpe2] 32 false)], 0⟩) (br (cnt == (8192 : Int)) (K (AOut.ret (int i64 3)) ⟨[oi cnt, oi lv, some (AObj.cells [int u8 ec, AV.bool ek, int u32 en, lsl nle1 0 cse1 lene1 cpe1, lsl nle2 0 cse2 lene2 cpe2] 32 false)], 0⟩) (K (AOut.ret (int i64 0)) ⟨[oi ((wrap i64 (cnt + (1 : Int)))), oi ((if d > lv then d else lv)), some (AObj.cells [int u8 ec, AV.bool ek, int u32 en, lsl nle1 0 cse1 lene1 cpe1, lsl nle2 0 cse2 lene2 cpe2] 32 false)], 0⟩)))) (br (decide (d > (16 : Int))) (K (AOut.ret (int i64 12)) ⟨[oi cnt, oi lv, some (AObj.cells [int u8 ec, AV.bool ek, int u32 en, lsl nle1 0 cse1 lene1 cpe1, lsl nle2 0 cse2 lene2 cpe2] 32 false)], 0⟩) (br (cnt == (8192 : Int)) (K (AOut.ret (int i64 3)) ⟨[oi cnt, oi lv, some (AObj.cells [int u8 ec, AV.bool ek, int u32 en, lsl nle1 0 cse1 lene1 cpe1, lsl nle2 0 cse2 lene2 cpe2] 32 false)], 0⟩) (K (AOut.ret (int i64 0)) ⟨[oi ((wrap i64 (cnt + (1 : Int)))), oi ((if d > lv then d else lv)), some (AObj.cells [int u8 ec, AV.bool ek, int u32 en, lsl nle1 0 cse1 lene1 cpe1, lsl nle2 0 cse2 lene2 cpe2] 32 false)], 0⟩)))))) := by kernel_rfl
theorem vc58 (ec en : Int) (ek nle1 nle2 : Bool) (lene1 lene2 : Nat) (cse1 cse2 : List AV) (cpe1 cpe2 : Option Nat) (K : AOut → Prop) : (dataT Tryd.prog env [(58, { calls := [(1, [(2, Sh.int fun e => Sh.int fun c => Sh.int fun l => Sh.one (AOut.ret (int i64 e), ⟨[oi c, oi l], 0⟩))])] })] 58 [agg [int u8 ec, AV.bool ek, int u32 en, lsl nle1 0 cse1 lene1 cpe1, lsl nle2 0 cse2 lene2 cpe2]] K) =
    (∃ z1 z2 z3, Cl 75 [agg [int u8 ec, AV.bool ek, int u32 en, lsl nle1 0 cse1 lene1 cpe1, lsl nle2 0 cse2 lene2 cpe2], func (Fn.func 76) [] [ref 0 0, ref 1 0]] ⟨[oi 0, oi 0], 0⟩ (AOut.ret (int i64 z1)) ⟨[oi z2, oi z3], 0⟩ ∧ br (z1 != (0 : Int)) (K (AOut.ret (tup [int i64 z1, int i64 0, int i64 0]))) (K (AOut.ret (tup [int i64 0, int i64 z2, int i64 z3])))) := by kernel_rfl
theorem vc75 (ec en cnt lv : Int) (ek nle1 nle2 : Bool) (lene1 lene2 : Nat) (cse1 cse2 : List AV) (cpe1 cpe2 : Option Nat) (K : AOut → St → Prop) : (fnT Tryd.prog env [(75, { calls := [(3, [(2, Sh.int fun e => Sh.int fun c => Sh.int fun l => Sh.one (AOut.ret (int i64 e), ⟨[o76, oi c, oi l, o85], 0⟩))])] })] 9 75 [agg [int u8 ec, AV.bool ek, int u32 en, lsl nle1 0 cse1 lene1 cpe1, lsl nle2 0 cse2 lene2 cpe2], func (Fn.func 76) [] [ref 0 0, ref 1 0]] ⟨[oi cnt, oi lv], 0⟩ K) =
    (∃ z1 z2 z3, Cl 85 [agg [int u8 ec, AV.bool ek, int u32 en, lsl nle1 0 cse1 lene1 cpe1, lsl nle2 0 cse2 lene2 cpe2], int i64 1, ref 0 0, ref 3 0] ⟨[o76, oi cnt, oi lv, o85], 0⟩ (AOut.ret (int i64 z1)) ⟨[o76, oi z2, oi z3, o85], 0⟩ ∧ K (AOut.ret (int i64 z1)) ⟨[oi z2, oi z3, some (AObj.cells [int u8 ec, AV.bool ek, int u32 en, lsl nle1 0 cse1 lene1 cpe1, lsl nle2 0 cse2 lene2 cpe2] 32 false), some (AObj.cells [func (Fn.func 76) [] [ref 0 0, ref 1 0]] 143 false), some (AObj.cells [func (Fn.func 85) [] [ref 3 0, ref 4 0]] 143 false)], 0⟩) := by kernel_rfl
theorem vc37 (ec en : Int) (ek nle1 nle2 : Bool) (lene1 lene2 : Nat) (cse1 cse2 : List AV) (cpe1 cpe2 : Option Nat) (K : AOut → Prop) : (dataT Tryd.prog env [] 37 [agg [int u8 ec, AV.bool ek, int u32 en, lsl nle1 0 cse1 lene1 cpe1, lsl nle2 0 cse2 lene2 cpe2]] K) =
    (∃ z1 z2 z3, Sm 58 [agg [int u8 ec, AV.bool ek, int u32 en, lsl nle1 0 cse1 lene1 cpe1, lsl nle2 0 cse2 lene2 cpe2]] ((tup [int i64 z1, int i64 z2, int i64 z3])) ∧ K (AOut.ret (int i64 z1))) := by kernel_rfl
abbrev tb_r85 : List (FuncId × Sc) := [(85, { ops := [(6, [(0, Kd.w)])], calls := [(7, [(4, Sh.int fun e => Sh.int fun c => Sh.int fun l => Sh.one (AOut.ret (int i64 e), ⟨[o76, oi c, oi l, o85], 0⟩))])] })]
theorem r85 (d i cnt lv : Int) (nls : Bool) (lens : Nat) (css : List AV) (cps : Option Nat) (K : AExit → List (Nat × AV) → St → Prop) : (roundT Tryd.prog env tb_r85 85 (bodyL Tryd.f85 0) 4 34 [1, 3, 19, 20, 21] [6] [(1, int i64 d), (3, ref 3 0), (19, lsl nls 0 css lens cps), (20, int i64 (↑lens : Int)), (21, int i64 i)] ⟨[o76, oi cnt, oi lv, o85], 0⟩ K) =
    (br (decide (i < (↑lens : Int))) (nls = false ∧ (0 : Int) ≤ i ∧ i < (↑lens : Int) ∧ ∃ z1 b2 z3 b4 cs5 n6 cp7 b8 cs9 n10 cp11 cs12, List.drop (Int.toNat i * 5) css = int u8 z1 :: AV.bool b2 :: int u32 z3 :: lsl b4 0 cs5 n6 cp7 :: lsl b8 0 cs9 n10 cp11 :: cs12 ∧ ∃ z13 z14 z15, Cl 85 [agg [int u8 z1, AV.bool b2, int u32 z3, lsl b4 0 cs5 n6 cp7, lsl b8 0 cs9 n10 cp11], int i64 (wrap i64 (d + (1 : Int))), ref 0 0, ref 3 0] ⟨[o76, oi cnt, oi lv, o85], 0⟩ (AOut.ret (int i64 z13)) ⟨[o76, oi z14, oi z15, o85], 0⟩ ∧ br (z13 != (0 : Int)) (K AExit.ret [(6, int i64 z13)] ⟨[o76, oi z14, oi z15, o85], 0⟩) (K normal [(1, int i64 d), (3, ref 3 0), (19, lsl nls 0 css lens cps), (20, int i64 (↑lens : Int)), (21, int i64 (wrap i64 (i + (1 : Int))))] ⟨[o76, oi z14, oi z15, o85], 0⟩)) (K (exit 0) [(6, any)] ⟨[o76, oi cnt, oi lv, o85], 0⟩)) := by kernel_rfl
theorem vc85 (ec en d cnt lv : Int) (ek nle1 nle2 : Bool) (lene1 lene2 : Nat) (cse1 cse2 : List AV) (cpe1 cpe2 : Option Nat) (K : AOut → St → Prop) : (fnT Tryd.prog env [(85, { loops := [(0, LoopS.inv [1, 3, 19, 20, 21] fun _ σ => Sh.int fun c => Sh.int fun l => Sh.or (Sh.one (exit 0, [(6, any)], ⟨[List.getD (St.objs σ) 0 none, oi c, oi l, List.getD (St.objs σ) 3 none], 0⟩)) (Sh.int fun e => Sh.one (AExit.ret, [(6, int i64 e)], ⟨[List.getD (St.objs σ) 0 none, oi c, oi l, List.getD (St.objs σ) 3 none], 0⟩)))], calls := [(1, [(3, Sh.int fun e => Sh.int fun c => Sh.int fun l => Sh.one (AOut.ret (int i64 e), ⟨[oi c, oi l], 0⟩))])] })] 9 85 [agg [int u8 ec, AV.bool ek, int u32 en, lsl nle1 0 cse1 lene1 cpe1, lsl nle2 0 cse2 lene2 cpe2], int i64 d, ref 0 0, ref 3 0] ⟨[o76, oi cnt, oi lv, o85], 0⟩ K) =
    (∃ z1 z2 z3, Cl 76 [agg [int u8 ec, AV.bool ek, int u32 en, lsl nle1 0 cse1 lene1 cpe1, lsl nle2 0 cse2 lene2 cpe2], int i64 d, ref 0 0, ref 1 0] ⟨[oi cnt, oi lv], 0⟩ (AOut.ret (int i64 z1)) ⟨[oi z2, oi z3], 0⟩ ∧ br (z1 != (0 : Int)) (K (AOut.ret (int i64 z1)) ⟨[o76, oi z2, oi z3, o85, some (AObj.cells [int u8 ec, AV.bool ek, int u32 en, lsl nle1 0 cse1 lene1 cpe1, lsl nle2 0 cse2 lene2 cpe2] 32 false)], 0⟩) (∃ z4 z5, Cd 4 (Code.loop (bodyL Tryd.f85 0)) (frOf 34 [(1, int i64 d), (3, ref 3 0), (19, lsl nle2 0 cse2 lene2 cpe2), (20, int i64 (↑lene2 : Int)), (21, int i64 0)]) ⟨[o76, oi z2, oi z3, o85], 0⟩ (exit 0) (frOf 34 [(6, any)]) ⟨[o76, oi z4, oi z5, o85], 0⟩ ∧ K (AOut.ret (int i64 0)) ⟨[o76, oi z4, oi z5, o85], 0⟩ ∨ ∃ z6, Cd 4 (Code.loop (bodyL Tryd.f85 0)) (frOf 34 [(1, int i64 d), (3, ref 3 0), (19, lsl nle2 0 cse2 lene2 cpe2), (20, int i64 (↑lene2 : Int)), (21, int i64 0)]) ⟨[o76, oi z2, oi z3, o85], 0⟩ AExit.ret (frOf 34 [(6, int i64 z6)]) ⟨[o76, oi z4, oi z5, o85], 0⟩ ∧ K (AOut.ret (int i64 z6)) ⟨[o76, oi z4, oi z5, o85], 0⟩)) := by kernel_rfl
end

def tagErr (c : Int) (k : Bool) (n : Int) : Int :=
  if c > 3 then 1 else if n > 268435455 then 1 else if c ≠ 0 then 0 else if n = 0 then 9 else if n = 16 then (if k = false then 9 else 0) else if n = 17 then (if k = false then 9 else 0) else 0

theorem sum77 (c n : Int) (k : Bool) : Sm 77 [.agg [.int .u8 c, .bool k, .int .u32 n]] (.int .i64 (tagErr c k n)) := by
  refine sum_vc (vc77 ..) ?_
  unfold tagErr
  repeat' (apply br_i <;> intro _)
  all_goals simp_all
  all_goals (try omega)

/-- One element looked at: its error. -/
def visE (c : Int) (k : Bool) (n : Int) (bl sl : Nat) (d cnt : Int) : Int :=
  if tagErr c k n ≠ 0 then tagErr c k n else if (k = true ∧ bl ≠ 0) ∨ (k = false ∧ sl ≠ 0) then 1 else if d > 16 then 12 else if cnt = 8192 then 3 else 0

theorem call76 {e : El} {cells : List AV} (h : ElA e cells) (d cnt lv : Int) (h0 : 0 ≤ cnt) (h1 : cnt ≤ 8192) : match e with
    | .mk c k n bs subs => Cl 76 [.agg cells, .int .i64 d, .ref 0 0, .ref 1 0] ⟨[oi cnt, oi lv], 0⟩ (.ret (.int .i64 (visE c k n bs.length subs.length d cnt)))
        ⟨[oi (if visE c k n bs.length subs.length d cnt = 0 then cnt + 1 else cnt), oi (if visE c k n bs.length subs.length d cnt = 0 then max lv d else lv)], 0⟩ := by
  obtain ⟨c, k, n, bs, subs⟩ := e
  obtain ⟨nl1, ex1, cp1, nl2, cs2, cp2, rfl, hc1, hl1, hn1, hc2, hl2, hn2, hs⟩ := h.out
  refine call_vc 2 (vc76 ..) ?_ (by simp) rfl
  refine ⟨_, sum77 c n k, ?_⟩
  have hw : IntKind.i64.wrap (cnt + 1) = cnt + 1 := wrap_small (by omega) (by omega)
  have hm : (if d > lv then d else lv) = max lv d := by rw [Int.max_def]; split <;> split <;> omega
  unfold visE
  rw [hw, hm]
  clear h hc1 hl1 hn1 hc2 hl2 hn2 hs hw hm
  generalize bs.length = bl
  generalize subs.length = sl
  by_cases ht : tagErr c k n = 0
  · simp only [ht]
    cases k <;> repeat' (apply br_i <;> intro _)
    all_goals (try simp_all [St.cut, cutOs, cutO, belowL, refsL, refsA])
    all_goals (try omega)
  · repeat' (apply br_i <;> intro _)
    all_goals (try simp_all [St.cut, cutOs, cutO, belowL, refsL, refsA])
    all_goals (try omega)


mutual
/-- All elements looked at, in order: error, count, levels. -/
def chk : El → Int → Int → Int → Int × Int × Int
  | .mk c k n bs subs, d, cnt, lv =>
    if visE c k n bs.length subs.length d cnt ≠ 0 then (visE c k n bs.length subs.length d cnt, cnt, lv)
    else chks subs (d + 1) (cnt + 1) (max lv d)
def chks : List El → Int → Int → Int → Int × Int × Int
  | [], _, cnt, lv => (0, cnt, lv)
  | e :: es, d, cnt, lv => if (chk e d cnt lv).1 ≠ 0 then chk e d cnt lv else chks es d (chk e d cnt lv).2.1 (chk e d cnt lv).2.2
end

theorem visE_le {c : Int} {k : Bool} {n : Int} {bl sl : Nat} {d cnt : Int} (h : visE c k n bl sl d cnt = 0) : tagErr c k n = 0 ∧ (k = true → bl = 0) ∧ (k = false → sl = 0) ∧ d ≤ 16 ∧ cnt ≠ 8192 := by
  unfold visE at h
  by_cases ht : tagErr c k n = 0
  · simp only [ht] at h
    simp at h
    split at h
    · omega
    · rename_i h2
      split at h
      · omega
      · split at h
        · omega
        · refine ⟨ht, ?_, ?_, by omega, by omega⟩ <;> (intro hk; simp_all)
  · simp_all

mutual
theorem chk_rng : ∀ (e : El) (d cnt lv : Int), 0 ≤ cnt → cnt ≤ 8192 → 0 ≤ (chk e d cnt lv).2.1 ∧ (chk e d cnt lv).2.1 ≤ 8192
  | .mk c k n bs subs, d, cnt, lv, h0, h1 => by
    simp only [chk]
    split
    · exact ⟨h0, h1⟩
    · rename_i h
      have := visE_le (by simpa using h)
      exact chks_rng subs _ _ _ (by omega) (by omega)
theorem chks_rng : ∀ (l : List El) (d cnt lv : Int), 0 ≤ cnt → cnt ≤ 8192 → 0 ≤ (chks l d cnt lv).2.1 ∧ (chks l d cnt lv).2.1 ≤ 8192
  | [], d, cnt, lv, h0, h1 => by simp only [chks]; exact ⟨h0, h1⟩
  | e :: es, d, cnt, lv, h0, h1 => by
    have := chk_rng e d cnt lv h0 h1
    simp only [chks]
    split
    · exact this
    · exact chks_rng es d _ _ this.1 this.2
end

theorem map_len {k : IntKind} {l : List Int} : (l.map (AV.int k)).length = l.length := by simp

/-- walk's inner function. -/
theorem call85 : ∀ (e : El) (cells : List AV) (d cnt lv : Int), ElA e cells → 0 ≤ cnt → cnt ≤ 8192 → 0 ≤ d → d ≤ 17 →
    Cl 85 [.agg cells, .int .i64 d, .ref 0 0, .ref 3 0] ⟨[o76, oi cnt, oi lv, o85], 0⟩ (.ret (.int .i64 (chk e d cnt lv).1)) ⟨[o76, oi (chk e d cnt lv).2.1, oi (chk e d cnt lv).2.2, o85], 0⟩ := by
  refine El.ind ?_
  intro c k n bs subs ih cells d cnt lv h h0 h1 h2 h3
  have h76 := call76 h d cnt lv h0 h1
  obtain ⟨nl1, ex1, cp1, nl2, cs2, cp2, rfl, hc1, hl1, hn1, hc2, hl2, hn2, hs⟩ := h.out
  simp only at h76
  refine call_vc 4 (vc85 ..) ?_ (by simp) rfl
  refine ⟨_, _, _, h76, ?_⟩
  generalize hv : visE c k n bs.length subs.length d cnt = v at *
  simp only [chk, hv]
  by_cases hv0 : v = 0
  · subst hv0
    have hle := visE_le hv
    simp only [bne_self_eq_false, if_true, ne_eq, not_true_eq_false, if_false]
    show ∃ z4 z5, _
    have hd1 : IntKind.i64.wrap (d + 1) = d + 1 := wrap_small (by omega) (by omega)
    -- the loop over the elements below
    have hloop := loop_by (α := Nat × Int × Int) (tb := tb_r85) (f := 85) (c := bodyL Tryd.f85 0) (k := 4) (N := 34) (keepN := [1, 3, 19, 20, 21]) (keepX := [6]) env_ok
      (fun x kvs σ => x.1 ≤ subs.length ∧ 0 ≤ x.2.1 ∧ x.2.1 ≤ 8192 ∧ kvs = [(1, .int .i64 d), (3, .ref 3 0), (19, .lsl nl2 0 cs2 subs.length cp2), (20, .int .i64 subs.length), (21, .int .i64 x.1)] ∧
        σ = ⟨[o76, oi x.2.1, oi x.2.2, o85], 0⟩)
      (fun x ae kvs σ => ∃ r, r = chks (subs.drop x.1) (d + 1) x.2.1 x.2.2 ∧ (if r.1 = 0 then ae = .exit 0 ∧ kvs = [(6, .any)] else ae = .ret ∧ kvs = [(6, .int .i64 r.1)]) ∧
        σ = ⟨[o76, oi r.2.1, oi r.2.2, o85], 0⟩)
      (fun x => subs.length - x.1) ?_ (0, cnt + 1, max lv d) _ _ ⟨Nat.zero_le _, by simp only; omega, by simp only; omega, rfl, rfl⟩
    · obtain ⟨ae, kvs, σ', ⟨r, hr, h5, rfl⟩, hc⟩ := hloop
      simp only [List.drop_zero] at hr
      rw [← hr]
      refine ⟨r.2.1, r.2.2, ?_⟩
      by_cases hr0 : r.1 = 0
      · simp only [hr0, if_true] at h5
        obtain ⟨rfl, rfl⟩ := h5
        exact .inl ⟨hc, by rw [hr0], rfl⟩
      · simp only [hr0, if_false] at h5
        obtain ⟨rfl, rfl⟩ := h5
        exact .inr ⟨_, hc, rfl, rfl⟩
    · rintro ⟨i, cn, l⟩ kvs σ ⟨hi, hc0, hc9, rfl, rfl⟩
      simp only at hi hc0 hc9 ⊢
      rw [r85]
      refine br_i (fun hlt => ?_) (fun hge => ?_)
      · have hlt : i < subs.length := by simpa using hlt
        obtain ⟨ce, t, hd, hce, hrest⟩ := hs.at hlt
        have hmem0 : subs[i] ∈ subs := List.getElem_mem hlt
        have hdrop : subs.drop i = subs[i] :: subs.drop (i + 1) := List.drop_eq_getElem_cons hlt
        generalize subs[i] = es at hce hmem0 hdrop
        obtain ⟨c', k', n', bs', subs'⟩ := es
        obtain ⟨nl1', ex1', cp1', nl2', cs2', cp2', rfl, _⟩ := hce.out
        have hrec := ih _ hmem0 _ (d + 1) cn l hce hc0 hc9 (by omega) (by omega)
        have hnl : nl2 = false := by
          cases nl2
          · rfl
          · rw [hn2 rfl] at hlt; simp at hlt
        refine ⟨hnl, by omega, by omega, _, _, _, _, _, _, _, _, _, _, _, _, by simpa using hd, _, _, _, by rw [hd1]; exact hrec, ?_⟩
        have hrng := chk_rng (.mk c' k' n' bs' subs') (d + 1) cn l hc0 hc9
        refine br_i (fun hne => ?_) (fun heq => ?_)
        · have hne : (chk (.mk c' k' n' bs' subs') (d + 1) cn l).1 ≠ 0 := by simpa using hne
          refine ⟨_, rfl, ?_, ?_⟩
          · rw [hdrop]; simp [chks, hne]
          · rw [hdrop]; simp only [chks, hne, ne_eq, not_false_eq_true, if_true]
        · have heq : (chk (.mk c' k' n' bs' subs') (d + 1) cn l).1 = 0 := by simpa using heq
          refine ⟨(i + 1, (chk (.mk c' k' n' bs' subs') (d + 1) cn l).2.1, (chk (.mk c' k' n' bs' subs') (d + 1) cn l).2.2), by simp only; omega, ⟨by simp only; omega, hrng.1, hrng.2, ?_, rfl⟩, ?_⟩
          · rw [wrap_small (by omega) (by omega)]; simp
          · rintro ae kvs σ ⟨r, hr, h5⟩
            refine ⟨r, ?_, h5⟩
            rw [hdrop]; simp only [chks, heq, ne_eq, not_true_eq_false, if_false]
            exact hr
      · have hge : i = subs.length := by
          have : ¬ i < subs.length := by simpa using hge
          omega
        refine ⟨(0, cn, l), by rw [hge, List.drop_length]; rfl, ?_, rfl⟩
        simp
  · have : (v != 0) = true := by simpa using hv0
    rw [this]
    simp only [hv0, if_false, ne_eq, not_false_eq_true, if_true]
    exact ⟨trivial, rfl⟩

/-- What Check, Count and Depth tell. -/
def checkE (e : El) : Int := (chk e 1 0 0).1

theorem sum58 {e : El} {cells : List AV} (h : ElA e cells) : Sm 58 [.agg cells] (if checkE e ≠ 0 then .tup [.int .i64 (checkE e), .int .i64 0, .int .i64 0] else .tup [.int .i64 0, .int .i64 (chk e 1 0 0).2.1, .int .i64 (chk e 1 0 0).2.2]) := by
  have h85 := call85 e cells 1 0 0 h (by omega) (by omega) (by omega) (by omega)
  obtain ⟨c, k, n, bs, subs⟩ := e
  obtain ⟨nl1, ex1, cp1, nl2, cs2, cp2, rfl, -⟩ := h.out
  have h75 : Cl 75 [.agg [.int .u8 c, .bool k, .int .u32 n, .lsl nl1 0 (bs.map (AV.int .u8) ++ ex1) bs.length cp1, .lsl nl2 0 cs2 subs.length cp2], .func (.func 76) [] [.ref 0 0, .ref 1 0]] ⟨[oi 0, oi 0], 0⟩
      (.ret (.int .i64 (checkE (.mk c k n bs subs)))) ⟨[oi (chk (.mk c k n bs subs) 1 0 0).2.1, oi (chk (.mk c k n bs subs) 1 0 0).2.2], 0⟩ := by
    refine call_vc 2 (vc75 ..) ?_ (by simp) rfl
    exact ⟨_, _, _, h85, rfl, rfl⟩
  refine sum_vc (vc58 ..) ?_
  refine ⟨_, _, _, h75, ?_⟩
  refine br_i (fun h => ?_) (fun h => ?_)
  · have h : checkE (.mk c k n bs subs) ≠ 0 := by simpa using h
    rw [if_pos h]
  · have h : checkE (.mk c k n bs subs) = 0 := by simpa using h
    rw [if_neg (by simp [h])]

theorem sum37 {e : El} {cells : List AV} (h : ElA e cells) : Sm 37 [.agg cells] (.int .i64 (checkE e)) := by
  have h58 := sum58 h
  obtain ⟨c, k, n, bs, subs⟩ := e
  obtain ⟨nl1, ex1, cp1, nl2, cs2, cp2, rfl, -⟩ := h.out
  refine sum_vc (vc37 ..) ?_
  by_cases hc : checkE (.mk c k n bs subs) ≠ 0
  · rw [if_pos hc] at h58
    exact ⟨_, _, _, h58, rfl⟩
  · rw [if_neg hc] at h58
    exact ⟨_, _, _, h58, by simp at hc; rw [hc]⟩

end Go.Vid
