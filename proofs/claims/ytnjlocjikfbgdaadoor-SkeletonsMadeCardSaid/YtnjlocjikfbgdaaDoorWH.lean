/-
few: a summary.
-/
import Derived.Test.YtnjlocjikfbgdaaDoorWG
set_option linter.all false
namespace Go.Vid
open Go.Proofs
set_option maxRecDepth 100000
set_option linter.unusedVariables false
section
open AExit AOut AV IntKind
abbrev tb_r26 : List (FuncId × Sc) := [(26, { ops := [(7, [(3, Kd.w)])], calls := [(7, [(8, Sh.int fun r => Sh.int fun l => Sh.one (AOut.ret (int i64 r), ⟨[oi l], 0⟩))])] })]
theorem r26 (lv i left ec en : Int) (ek nle1 nle2 : Bool) (lene1 lene2 : Nat) (cse1 cse2 : List AV) (cpe1 cpe2 : Option Nat) (K : AExit → List (Nat × AV) → St → Prop) : (roundT Tryd.prog env tb_r26 26 (bodyL Tryd.f26 0) 1 51 [1, 2, 3, 6, 7] [1, 3, 6] [(1, ref 0 0), (2, int i64 lv), (3, ref 1 0), (6, int i64 0), (7, int i64 i)] ⟨[oi left, some (AObj.cells [int u8 ec, AV.bool ek, int u32 en, lsl nle1 0 cse1 lene1 cpe1, lsl nle2 0 cse2 lene2 cpe2] 32 false)], 0⟩ K) =
    (br (decide (i < (↑lene2 : Int))) (nle2 = false ∧ (0 : Int) ≤ i ∧ i < (↑lene2 : Int) ∧ ∃ z1 b2 z3 b4 cs5 n6 cp7 b8 cs9 n10 cp11 cs12, List.drop (Int.toNat i * 5) cse2 = int u8 z1 :: AV.bool b2 :: int u32 z3 :: lsl b4 0 cs5 n6 cp7 :: lsl b8 0 cs9 n10 cp11 :: cs12 ∧ ∃ z13 z14, Cl 26 [agg [int u8 z1, AV.bool b2, int u32 z3, lsl b4 0 cs5 n6 cp7, lsl b8 0 cs9 n10 cp11], ref 0 0, int i64 (wrap i64 (lv + (1 : Int)))] ⟨[oi left], 0⟩ (AOut.ret (int i64 z13)) ⟨[oi z14], 0⟩ ∧ br (z13 == (0 : Int)) (K AExit.ret [(1, ref 0 0), (3, ref 1 0), (6, int i64 0)] ⟨[oi z14, some (AObj.cells [int u8 ec, AV.bool ek, int u32 en, lsl nle1 0 cse1 lene1 cpe1, lsl nle2 0 cse2 lene2 cpe2] 32 false)], 0⟩) (K normal [(1, ref 0 0), (2, int i64 lv), (3, ref 1 0), (6, int i64 0), (7, int i64 (wrap i64 (i + (1 : Int))))] ⟨[oi z14, some (AObj.cells [int u8 ec, AV.bool ek, int u32 en, lsl nle1 0 cse1 lene1 cpe1, lsl nle2 0 cse2 lene2 cpe2] 32 false)], 0⟩)) (K (exit 0) [(1, ref 0 0), (3, ref 1 0), (6, int i64 0)] ⟨[oi left, some (AObj.cells [int u8 ec, AV.bool ek, int u32 en, lsl nle1 0 cse1 lene1 cpe1, lsl nle2 0 cse2 lene2 cpe2] 32 false)], 0⟩)) := by kernel_rfl
theorem vc26 (ec en lv left : Int) (ek nle1 nle2 : Bool) (lene1 lene2 : Nat) (cse1 cse2 : List AV) (cpe1 cpe2 : Option Nat) (K : AOut → St → Prop) : (fnT Tryd.prog env [(26, { ops := [(2, [(4, Kd.b), (8, Kd.b), (14, Kd.b)])], loops := [(0, LoopS.inv [1, 2, 3, 6, 7] fun _ σ => Sh.int fun l => Sh.or (Sh.one (exit 0, [(1, ref 0 0), (3, ref 1 0), (6, int i64 0)], ⟨[oi l, List.getD (St.objs σ) 1 none], 0⟩)) (Sh.one (AExit.ret, [(1, ref 0 0), (3, ref 1 0), (6, int i64 0)], ⟨[oi l, List.getD (St.objs σ) 1 none], 0⟩)))] })] 9 26 [agg [int u8 ec, AV.bool ek, int u32 en, lsl nle1 0 cse1 lene1 cpe1, lsl nle2 0 cse2 lene2 cpe2], ref 0 0, int i64 lv] ⟨[oi left], 0⟩ K) =
    (br (decide (wrap i64 (left - (1 : Int)) < (0 : Int))) (K (AOut.ret (int i64 0)) ⟨[oi ((wrap i64 (left - (1 : Int)))), some (AObj.cells [int u8 ec, AV.bool ek, int u32 en, lsl nle1 0 cse1 lene1 cpe1, lsl nle2 0 cse2 lene2 cpe2] 32 false)], 0⟩) (br (decide (lv > (20 : Int))) (K (AOut.ret (int i64 0)) ⟨[oi ((wrap i64 (left - (1 : Int)))), some (AObj.cells [int u8 ec, AV.bool ek, int u32 en, lsl nle1 0 cse1 lene1 cpe1, lsl nle2 0 cse2 lene2 cpe2] 32 false)], 0⟩) (br (decide ((↑lene1 : Int) > (100 : Int))) (K (AOut.ret (int i64 0)) ⟨[oi ((wrap i64 (left - (1 : Int)))), some (AObj.cells [int u8 ec, AV.bool ek, int u32 en, lsl nle1 0 cse1 lene1 cpe1, lsl nle2 0 cse2 lene2 cpe2] 32 false)], 0⟩) (br (decide ((↑lene2 : Int) > (60 : Int))) (K (AOut.ret (int i64 0)) ⟨[oi ((wrap i64 (left - (1 : Int)))), some (AObj.cells [int u8 ec, AV.bool ek, int u32 en, lsl nle1 0 cse1 lene1 cpe1, lsl nle2 0 cse2 lene2 cpe2] 32 false)], 0⟩) (∃ z1, Cd 1 (Code.loop (bodyL Tryd.f26 0)) (frOf 51 [(1, ref 0 0), (2, int i64 lv), (3, ref 1 0), (6, int i64 0), (7, int i64 0)]) ⟨[oi ((wrap i64 (left - (1 : Int)))), some (AObj.cells [int u8 ec, AV.bool ek, int u32 en, lsl nle1 0 cse1 lene1 cpe1, lsl nle2 0 cse2 lene2 cpe2] 32 false)], 0⟩ (exit 0) (frOf 51 [(1, ref 0 0), (3, ref 1 0), (6, int i64 0)]) ⟨[oi z1, some (AObj.cells [int u8 ec, AV.bool ek, int u32 en, lsl nle1 0 cse1 lene1 cpe1, lsl nle2 0 cse2 lene2 cpe2] 32 false)], 0⟩ ∧ K (AOut.ret (int i64 1)) ⟨[oi z1, some (AObj.cells [int u8 ec, AV.bool ek, int u32 en, lsl nle1 0 cse1 lene1 cpe1, lsl nle2 0 cse2 lene2 cpe2] 32 false)], 0⟩ ∨ Cd 1 (Code.loop (bodyL Tryd.f26 0)) (frOf 51 [(1, ref 0 0), (2, int i64 lv), (3, ref 1 0), (6, int i64 0), (7, int i64 0)]) ⟨[oi ((wrap i64 (left - (1 : Int)))), some (AObj.cells [int u8 ec, AV.bool ek, int u32 en, lsl nle1 0 cse1 lene1 cpe1, lsl nle2 0 cse2 lene2 cpe2] 32 false)], 0⟩ AExit.ret (frOf 51 [(1, ref 0 0), (3, ref 1 0), (6, int i64 0)]) ⟨[oi z1, some (AObj.cells [int u8 ec, AV.bool ek, int u32 en, lsl nle1 0 cse1 lene1 cpe1, lsl nle2 0 cse2 lene2 cpe2] 32 false)], 0⟩ ∧ K (AOut.ret (int i64 0)) ⟨[oi z1, some (AObj.cells [int u8 ec, AV.bool ek, int u32 en, lsl nle1 0 cse1 lene1 cpe1, lsl nle2 0 cse2 lene2 cpe2] 32 false)], 0⟩))))) := by kernel_rfl
end

/-! few -/
mutual
def fewM : El → Int → Int → Int × Int
  | .mk _ _ _ bs subs, left, lv =>
    if IntKind.i64.wrap (left - 1) < 0 ∨ lv > 20 ∨ (bs.length : Int) > 100 ∨ (subs.length : Int) > 60 then (0, IntKind.i64.wrap (left - 1))
    else fewsM subs (IntKind.i64.wrap (left - 1)) (IntKind.i64.wrap (lv + 1))
def fewsM : List El → Int → Int → Int × Int
  | [], left, _ => (1, left)
  | e :: es, left, lv => if (fewM e left lv).1 = 0 then (0, (fewM e left lv).2) else fewsM es (fewM e left lv).2 lv
end

mutual
theorem few_bd : ∀ (e : El) (left lv : Int), (fewM e left lv).1 ≠ 0 → e.Bd
  | .mk _ _ _ bs subs, left, lv, h => by
    simp only [fewM] at h
    split at h
    · exact absurd rfl h
    · rename_i h1
      simp only [not_or] at h1
      simp only [El.Bd]
      exact ⟨by omega, by omega, fews_bd subs _ _ h⟩
theorem fews_bd : ∀ (l : List El) (left lv : Int), (fewsM l left lv).1 ≠ 0 → El.BdL l
  | [], _, _, _ => by simp only [El.BdL]
  | e :: es, left, lv, h => by
    simp only [fewsM] at h
    split at h
    · exact absurd rfl h
    · rename_i h1
      simp only [El.BdL]
      exact ⟨few_bd e _ _ h1, fews_bd es _ _ h⟩
end

mutual
theorem few_01 : ∀ (e : El) (left lv : Int), (fewM e left lv).1 = 0 ∨ (fewM e left lv).1 = 1
  | .mk _ _ _ bs subs, left, lv => by
    simp only [fewM]
    split
    · exact .inl rfl
    · exact fews_01 subs _ _
theorem fews_01 : ∀ (l : List El) (left lv : Int), (fewsM l left lv).1 = 0 ∨ (fewsM l left lv).1 = 1
  | [], _, _ => .inr rfl
  | e :: es, left, lv => by
    simp only [fewsM]
    split
    · exact .inl rfl
    · exact fews_01 es _ _
end

theorem call26 : ∀ (e : El) (cells : List AV) (left lv : Int), ElA e cells →
    Cl 26 [.agg cells, .ref 0 0, .int .i64 lv] ⟨[oi left], 0⟩ (.ret (.int .i64 (fewM e left lv).1)) ⟨[oi (fewM e left lv).2], 0⟩ := by
  refine El.ind ?_
  intro c k n bs subs ih cells left lv h
  obtain ⟨nl1, ex1, cp1, nl2, cs2, cp2, rfl, hc1, hl1, hn1, hc2, hl2, hn2, hs⟩ := h.out
  refine call_vc 1 (vc26 ..) ?_ (by simp) rfl
  simp only [fewM]
  generalize IntKind.i64.wrap (left - 1) = l
  refine br_i (fun h1 => ?_) (fun h1 => br_i (fun h2 => ?_) (fun h2 => br_i (fun h3 => ?_) (fun h3 => br_i (fun h4 => ?_) (fun h4 => ?_))))
  · have h1 := of_decide_eq_true h1
    rw [if_pos (.inl h1)]; exact ⟨rfl, rfl⟩
  · have h2 := of_decide_eq_true h2
    rw [if_pos (.inr (.inl h2))]; exact ⟨rfl, rfl⟩
  · have h3 := of_decide_eq_true h3
    rw [if_pos (.inr (.inr (.inl h3)))]; exact ⟨rfl, rfl⟩
  · have h4 := of_decide_eq_true h4
    rw [if_pos (.inr (.inr (.inr h4)))]; exact ⟨rfl, rfl⟩
  · have h1 := of_decide_eq_false h1
    have h2 := of_decide_eq_false h2
    have h3 := of_decide_eq_false h3
    have h4 := of_decide_eq_false h4
    rw [if_neg (by simp only [not_or]; exact ⟨h1, h2, h3, h4⟩)]
    have hloop := loop_by (α := Nat × Int) (tb := tb_r26) (f := 26) (c := bodyL Tryd.f26 0) (k := 1) (N := 51) (keepN := [1, 2, 3, 6, 7]) (keepX := [1, 3, 6]) env_ok
      (fun x kvs σ => x.1 ≤ subs.length ∧ kvs = [(1, .ref 0 0), (2, .int .i64 lv), (3, .ref 1 0), (6, .int .i64 0), (7, .int .i64 x.1)] ∧
        σ = ⟨[oi x.2, some (.cells [.int .u8 c, .bool k, .int .u32 n, .lsl nl1 0 (bs.map (AV.int .u8) ++ ex1) bs.length cp1, .lsl nl2 0 cs2 subs.length cp2] 32 false)], 0⟩)
      (fun x ae kvs σ => ∃ r, r = fewsM (subs.drop x.1) x.2 (IntKind.i64.wrap (lv + 1)) ∧ (if r.1 = 0 then ae = .ret else ae = .exit 0) ∧ kvs = [(1, .ref 0 0), (3, .ref 1 0), (6, .int .i64 0)] ∧
        σ = ⟨[oi r.2, some (.cells [.int .u8 c, .bool k, .int .u32 n, .lsl nl1 0 (bs.map (AV.int .u8) ++ ex1) bs.length cp1, .lsl nl2 0 cs2 subs.length cp2] 32 false)], 0⟩)
      (fun x => subs.length - x.1) ?_ (0, l) _ _ ⟨Nat.zero_le _, rfl, rfl⟩
    · obtain ⟨ae, kvs, σ', ⟨r, hr, h5, rfl, rfl⟩, hc⟩ := hloop
      simp only [List.drop_zero] at hr
      rw [← hr]
      refine ⟨r.2, ?_⟩
      by_cases hr0 : r.1 = 0
      · simp only [hr0, if_true] at h5
        subst h5
        exact .inr ⟨hc, by rw [hr0], rfl⟩
      · simp only [hr0, if_false] at h5
        subst h5
        have hr1 : r.1 = 1 := by
          have := fews_01 subs l (IntKind.i64.wrap (lv + 1))
          rw [← hr] at this
          omega
        exact .inl ⟨hc, by rw [hr1], rfl⟩
    · rintro ⟨i, l⟩ kvs σ ⟨hi, rfl, rfl⟩
      simp only at hi ⊢
      rw [r26]
      refine br_i (fun hlt => ?_) (fun hge => ?_)
      · have hlt : i < subs.length := by simpa using hlt
        obtain ⟨c5, k5, n5, bs5, ss5, nla, exa, cpa, nlb, csb, cpb, tl, hget, hdrop, hel⟩ := hs.cell hlt
        have hxe : subs[i] = El.mk c5 k5 n5 bs5 ss5 := by rw [List.getElem?_eq_getElem hlt] at hget; exact Option.some.inj hget
        have hmem : El.mk c5 k5 n5 bs5 ss5 ∈ subs := by rw [← hxe]; exact List.getElem_mem _
        have hsd : subs.drop i = El.mk c5 k5 n5 bs5 ss5 :: subs.drop (i + 1) := by rw [← hxe]; exact List.drop_eq_getElem_cons hlt
        have hrec := ih _ hmem _ l (IntKind.i64.wrap (lv + 1)) hel
        have hnl : nl2 = false := by
          cases nl2
          · rfl
          · rw [hn2 rfl] at hlt; simp at hlt
        have hw : IntKind.i64.wrap ((i : Int) + 1) = ((i + 1 : Nat) : Int) := by rw [wrap_small (by omega) (by omega)]; simp
        refine ⟨hnl, by omega, by omega, _, _, _, _, _, _, _, _, _, _, _, _, by rw [Int.toNat_natCast]; exact hdrop, _, _, hrec, ?_⟩
        refine br_i (fun hz => ?_) (fun hz => ?_)
        · have hz : (fewM (.mk c5 k5 n5 bs5 ss5) l (IntKind.i64.wrap (lv + 1))).1 = 0 := by simpa using hz
          refine ⟨_, rfl, ?_, rfl, ?_⟩
          · rw [hsd]; simp [fewsM, hz]
          · rw [hsd]; simp only [fewsM, hz, if_true]
        · have hz : (fewM (.mk c5 k5 n5 bs5 ss5) l (IntKind.i64.wrap (lv + 1))).1 ≠ 0 := by simpa using hz
          refine ⟨(i + 1, (fewM (.mk c5 k5 n5 bs5 ss5) l (IntKind.i64.wrap (lv + 1))).2), by simp only; omega, ⟨by simp only; omega, by rw [hw], rfl⟩, ?_⟩
          rintro ae kvs σ ⟨r, hr, h5⟩
          refine ⟨r, ?_, h5⟩
          rw [hsd]; simp only [fewsM, hz, if_false]
          exact hr
      · have hge : i = subs.length := by
          have : ¬ i < subs.length := by simpa using hge
          omega
        refine ⟨(1, l), by rw [hge, List.drop_length]; rfl, ?_, rfl, rfl⟩
        simp

end Go.Vid
