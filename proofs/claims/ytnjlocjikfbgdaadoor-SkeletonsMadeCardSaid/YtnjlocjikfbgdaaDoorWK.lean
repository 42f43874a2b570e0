/-
Sizes of encodings: summaries.
-/
import Derived.Test.YtnjlocjikfbgdaaDoorWH
set_option linter.all false
namespace Go.Vid
open Go.Proofs
set_option maxRecDepth 100000
set_option linter.unusedVariables false
section
open AExit AOut AV IntKind
theorem vc81 (x : Int) (K : AOut → Prop) : (dataT Tryd.prog env [(63, { ops := [(1, [(5, Kd.w)])], inl := true })] 81 [int i64 x] K) =
    (br (decide (x < (0 : Int))) (K (AOut.ret (tup [nilS, int i64 1]))) (br (decide (x > (16777215 : Int))) (K (AOut.ret (tup [nilS, int i64 3]))) (br (decide (x ≤ (127 : Int))) (K (AOut.ret (tup [lsl false 0 [int u8 (wrap u8 x)] 1 (some 1), int i64 0]))) (br (decide (x > (65535 : Int))) ((0 : Int) ≤ (4 : Int) ∧ (4 : Int) ≤ (4 : Int) ∧ (0 : Int) ≤ (4 : Int) ∧ (4 : Int) ≤ (4 : Int) ∧ K (AOut.ret (tup [lsl false 0 [int u8 131, int u8 (wrap u8 (Int.fdiv x (65536 : Int))), int u8 (wrap u8 (Int.fdiv x (256 : Int))), int u8 (wrap u8 x)] 4 (some 4), int i64 0]))) (br (decide (x > (255 : Int))) ((0 : Int) ≤ (3 : Int) ∧ (3 : Int) ≤ (3 : Int) ∧ (0 : Int) ≤ (3 : Int) ∧ (3 : Int) ≤ (3 : Int) ∧ K (AOut.ret (tup [lsl false 0 [int u8 130, int u8 (wrap u8 (Int.fdiv x (256 : Int))), int u8 (wrap u8 x)] 3 (some 3), int i64 0]))) ((0 : Int) ≤ (2 : Int) ∧ (2 : Int) ≤ (2 : Int) ∧ (0 : Int) ≤ (2 : Int) ∧ (2 : Int) ≤ (2 : Int) ∧ K (AOut.ret (tup [lsl false 0 [int u8 129, int u8 (wrap u8 x)] 2 (some 2), int i64 0])))))))) := by kernel_rfl
theorem vc82 (x : Int) (K : AOut → Prop) : (dataT Tryd.prog env [] 82 [int i64 x] K) =
    (∃ b1 cs2 n3 cp4 z5, Sm 81 [int i64 x] ((tup [lsl b1 0 cs2 n3 cp4, int i64 z5])) ∧ K (AOut.ret (int i64 (↑n3 : Int)))) := by kernel_rfl
theorem vc67 (x y : Int) (K : AOut → Prop) : (dataT Tryd.prog env [(67, { ops := [(1, [(2, Kd.b), (6, Kd.b)])] })] 67 [int i64 x, int i64 y] K) =
    (br (decide (x < (1 : Int))) (K (AOut.ret (int i64 0))) (br (decide (x > (5 : Int))) (K (AOut.ret (int i64 0))) (∃ z1, Sm 82 [int i64 y] ((int i64 z1)) ∧ br (z1 == (0 : Int)) (K (AOut.ret (int i64 0))) (∃ z2, Sm 82 [int i64 y] ((int i64 z2)) ∧ K (AOut.ret (int i64 (wrap i64 (wrap i64 (x + z2) + y)))))))) := by kernel_rfl
theorem vc68 (ac an : Int) (ak : Bool) (K : AOut → Prop) : (dataT Tryd.prog env [] 68 [agg [int u8 ac, AV.bool ak, int u32 an]] K) =
    (∃ b1 cs2 n3 cp4 z5, Sm 80 [agg [int u8 ac, AV.bool ak, int u32 an]] ((tup [lsl b1 0 cs2 n3 cp4, int i64 z5])) ∧ K (AOut.ret (int i64 (↑n3 : Int)))) := by kernel_rfl
abbrev tb_r66 : List (FuncId × Sc) := [(66, { ops := [(6, [(0, Kd.w)])] })]
theorem r66 (a i : Int) (nls : Bool) (lens : Nat) (css : List AV) (cps : Option Nat) (K : AExit → List (Nat × AV) → St → Prop) : (roundT Tryd.prog env tb_r66 66 (bodyL Tryd.f66 0) 0 27 [3, 14, 15, 16] [3] [(3, int i64 a), (14, lsl nls 0 css lens cps), (15, int i64 (↑lens : Int)), (16, int i64 i)] ⟨[], 0⟩ K) =
    (br (decide (i < (↑lens : Int))) (nls = false ∧ (0 : Int) ≤ i ∧ i < (↑lens : Int) ∧ ∃ z1 b2 z3 b4 cs5 n6 cp7 b8 cs9 n10 cp11 cs12, List.drop (Int.toNat i * 5) css = int u8 z1 :: AV.bool b2 :: int u32 z3 :: lsl b4 0 cs5 n6 cp7 :: lsl b8 0 cs9 n10 cp11 :: cs12 ∧ ∃ z13, Sm 52 [agg [int u8 z1, AV.bool b2, int u32 z3, lsl b4 0 cs5 n6 cp7, lsl b8 0 cs9 n10 cp11]] ((int i64 z13)) ∧ K normal [(3, int i64 (if (1048577 : Int) < wrap i64 (a + z13) then (1048577 : Int) else wrap i64 (a + z13))), (14, lsl nls 0 css lens cps), (15, int i64 (↑lens : Int)), (16, int i64 (wrap i64 (i + (1 : Int))))] ⟨[], 0⟩) (K (exit 0) [(3, int i64 a)] ⟨[], 0⟩)) := by kernel_rfl
theorem vc66 (ac an : Int) (ak nla1 nla2 : Bool) (lena1 lena2 : Nat) (csa1 csa2 : List AV) (cpa1 cpa2 : Option Nat) (K : AOut → Prop) : (dataT Tryd.prog env [(66, { loops := [(0, LoopS.inv [3, 14, 15, 16] fun _ σ => Sh.int fun a => Sh.one (exit 0, [(3, int i64 a)], ⟨[], 0⟩))] })] 66 [agg [int u8 ac, AV.bool ak, int u32 an, lsl nla1 0 csa1 lena1 cpa1, lsl nla2 0 csa2 lena2 cpa2]] K) =
    (br (!ak) (K (AOut.ret (int i64 (↑lena1 : Int)))) (∃ z1, Cd 0 (Code.loop (bodyL Tryd.f66 0)) (frOf 27 [(3, int i64 0), (14, lsl nla2 0 csa2 lena2 cpa2), (15, int i64 (↑lena2 : Int)), (16, int i64 0)]) ⟨[], 0⟩ (exit 0) (frOf 27 [(3, int i64 z1)]) ⟨[], 0⟩ ∧ K (AOut.ret (int i64 z1)))) := by kernel_rfl
theorem vc52 (ac an : Int) (ak nla1 nla2 : Bool) (lena1 lena2 : Nat) (csa1 csa2 : List AV) (cpa1 cpa2 : Option Nat) (K : AOut → Prop) : (dataT Tryd.prog env [] 52 [agg [int u8 ac, AV.bool ak, int u32 an, lsl nla1 0 csa1 lena1 cpa1, lsl nla2 0 csa2 lena2 cpa2]] K) =
    (∃ z1, Sm 66 [agg [int u8 ac, AV.bool ak, int u32 an, lsl nla1 0 csa1 lena1 cpa1, lsl nla2 0 csa2 lena2 cpa2]] ((int i64 z1)) ∧ br (decide (z1 > (1048576 : Int))) (K (AOut.ret (int i64 z1))) (∃ z2, Sm 68 [agg [int u8 ac, AV.bool ak, int u32 an]] ((int i64 z2)) ∧ ∃ z3, Sm 67 [int i64 z2, int i64 z1] ((int i64 z3)) ∧ K (AOut.ret (int i64 z3)))) := by kernel_rfl
theorem vc33 (ac an : Int) (ak nla1 nla2 : Bool) (lena1 lena2 : Nat) (csa1 csa2 : List AV) (cpa1 cpa2 : Option Nat) (K : AOut → Prop) : (dataT Tryd.prog env [] 33 [agg [int u8 ac, AV.bool ak, int u32 an, lsl nla1 0 csa1 lena1 cpa1, lsl nla2 0 csa2 lena2 cpa2]] K) =
    (∃ z1, Sm 37 [agg [int u8 ac, AV.bool ak, int u32 an, lsl nla1 0 csa1 lena1 cpa1, lsl nla2 0 csa2 lena2 cpa2]] ((int i64 z1)) ∧ br (z1 != (0 : Int)) (K (AOut.ret (int i64 0))) (∃ z2, Sm 52 [agg [int u8 ac, AV.bool ak, int u32 an, lsl nla1 0 csa1 lena1 cpa1, lsl nla2 0 csa2 lena2 cpa2]] ((int i64 z2)) ∧ br (decide (z2 > (1048576 : Int))) (K (AOut.ret (int i64 0))) (K (AOut.ret (int i64 z2))))) := by kernel_rfl
theorem vc80 (ac an : Int) (ak : Bool) (K : AOut → Prop) : (dataT Tryd.prog env [(80, { calls := [(10, [(2, Sh.one (AOut.ret (int i64 0), ⟨[], 0⟩))])] }), (63, { ops := [(1, [(5, Kd.w)])], inl := true })] 80 [agg [int u8 ac, AV.bool ak, int u32 an]] K) =
    (∃ z1, Sm 77 [agg [int u8 ac, AV.bool ak, int u32 an]] ((int i64 z1)) ∧ br (z1 != (0 : Int)) (K (AOut.ret (tup [nilS, int i64 z1]))) (br ak (br (decide (an < (31 : Int))) (K (AOut.ret (tup [lsl false 0 [int u8 (↑((Int.toNat (↑((Int.toNat (wrap u8 (ac * (64 : Int)) % (256 : Int)) ||| 32) % 256 % 256) : Int) ||| Int.toNat (wrap u8 an % (256 : Int))) % 256) : Int)] 1 (some 1), int i64 0]))) (Sm 86 [int u32 an] ((int i64 0)) ∧ False)) (br (decide (an < (31 : Int))) (K (AOut.ret (tup [lsl false 0 [int u8 (↑((Int.toNat (wrap u8 (ac * (64 : Int)) % (256 : Int)) ||| Int.toNat (wrap u8 an % (256 : Int))) % 256) : Int)] 1 (some 1), int i64 0]))) (Sm 86 [int u32 an] ((int i64 0)) ∧ False)))) := by kernel_rfl
end

/-! sizes -/
def lenB (x : Int) : List Int :=
  if x < 0 then [] else if x > 16777215 then [] else if x ≤ 127 then [IntKind.u8.wrap x]
  else if x > 65535 then [131, IntKind.u8.wrap (x.fdiv 65536), IntKind.u8.wrap (x.fdiv 256), IntKind.u8.wrap x]
  else if x > 255 then [130, IntKind.u8.wrap (x.fdiv 256), IntKind.u8.wrap x]
  else [129, IntKind.u8.wrap x]
def lenErr (x : Int) : Int := if x < 0 then 1 else if x > 16777215 then 3 else 0

theorem lenB_len (x : Int) : (lenB x).length ≤ 4 := by
  unfold lenB
  repeat' split
  all_goals simp

theorem lenB_pos {x : Int} (h0 : 0 ≤ x) (h1 : x ≤ 16777215) : 1 ≤ (lenB x).length := by
  unfold lenB
  rw [if_neg (by omega), if_neg (by omega)]
  repeat' split
  all_goals simp

abbrev bX (l : List Int) : AV := .lsl l.isEmpty 0 (l.map (AV.int .u8)) l.length (some l.length)

theorem sum81 (x : Int) : Sm 81 [.int .i64 x] (.tup [bX (lenB x), .int .i64 (lenErr x)]) := by
  refine sum_vc (vc81 ..) ?_
  unfold lenB lenErr
  refine br_i (fun h => ?_) (fun h => br_i (fun g => ?_) (fun g => br_i (fun k => ?_) (fun k => br_i (fun m => ?_) (fun m => br_i (fun n => ?_) (fun n => ?_)))))
  all_goals simp only [decide_eq_true_eq, decide_eq_false_iff_not] at *
  · simp [h]
  · simp [h, g]
  · simp [h, g, k]
  · simp [h, g, k, m]
  · simp [h, g, k, m, n]
  · simp [h, g, k, m, n]

theorem sum82 (x : Int) : Sm 82 [.int .i64 x] (.int .i64 (lenB x).length) :=
  sum_vc (vc82 ..) ⟨_, _, _, _, _, sum81 x, rfl⟩

def total (x y : Int) : Int := if x < 1 then 0 else if x > 5 then 0 else if (lenB y).length = 0 then 0 else IntKind.i64.wrap (IntKind.i64.wrap (x + (lenB y).length) + y)

theorem sum67 (x y : Int) : Sm 67 [.int .i64 x, .int .i64 y] (.int .i64 (total x y)) := by
  refine sum_vc (vc67 ..) ?_
  unfold total
  refine br_i (fun h => ?_) (fun h => br_i (fun g => ?_) (fun g => ⟨_, sum82 y, br_i (fun k => ?_) (fun k => ⟨_, sum82 y, ?_⟩)⟩))
  all_goals simp only [decide_eq_true_eq, decide_eq_false_iff_not] at *
  · rw [if_pos h]
  · rw [if_neg h, if_pos g]
  · have k : (lenB y).length = 0 := by have : ((lenB y).length : Int) = 0 := by simpa using k
                                       omega
    rw [if_neg h, if_neg g, if_pos k]
  · have k : ¬ (lenB y).length = 0 := by intro e; rw [e] at k; simp at k
    rw [if_neg h, if_neg g, if_neg k]

/-- The only octet of a small number's tag. -/
def tag1 (c : Int) (k : Bool) (n : Int) : Int :=
  if k = true then (↑((Int.toNat (↑((Int.toNat (IntKind.u8.wrap (c * (64 : Int)) % (256 : Int)) ||| 32) % 256 % 256) : Int) ||| Int.toNat (IntKind.u8.wrap n % (256 : Int))) % 256) : Int)
  else (↑((Int.toNat (IntKind.u8.wrap (c * (64 : Int)) % (256 : Int)) ||| Int.toNat (IntKind.u8.wrap n % (256 : Int))) % 256) : Int)

/-- The numbers of tags for which the octets are known here. -/
def TagN (n : Int) : Prop := n < 31
def tagB (c : Int) (k : Bool) (n : Int) : List Int := if tagErr c k n ≠ 0 then [] else [tag1 c k n]

theorem tagB_len {c : Int} {k : Bool} {n : Int} : (tagB c k n).length ≤ 5 := by
  unfold tagB; split <;> simp
theorem tagB_pos {c : Int} {k : Bool} {n : Int} (h : tagErr c k n = 0) : 1 ≤ (tagB c k n).length := by
  unfold tagB; rw [if_neg (by simp [h])]; simp

theorem sum80 {c : Int} {k : Bool} {n : Int} (h : TagN n) : Sm 80 [.agg [.int .u8 c, .bool k, .int .u32 n]] (.tup [bX (tagB c k n), .int .i64 (tagErr c k n)]) := by
  refine sum_vc (vc80 ..) ?_
  refine ⟨_, sum77 c n k, br_i (fun h1 => ?_) (fun h1 => ?_)⟩
  · have h1 : tagErr c k n ≠ 0 := by simpa using h1
    unfold tagB
    rw [if_pos h1]; rfl
  · have h1 : tagErr c k n = 0 := by simpa using h1
    unfold tagB tag1
    rw [if_neg (by simp [h1]), h1]
    refine br_i (fun hk => br_t (by simpa [TagN] using h) ?_) (fun hk => br_t (by simpa [TagN] using h) ?_)
    · rw [if_pos hk]; rfl
    · rw [if_neg (by simp [hk])]; rfl

theorem sum68 {c : Int} {k : Bool} {n : Int} (h : TagN n) : Sm 68 [.agg [.int .u8 c, .bool k, .int .u32 n]] (.int .i64 (tagB c k n).length) :=
  sum_vc (vc68 ..) ⟨_, _, _, _, _, sum80 h, rfl⟩

mutual
def El.Tg : El → Prop
  | .mk _ _ n _ subs => TagN n ∧ El.TgL subs
def El.TgL : List El → Prop
  | [] => True
  | e :: es => e.Tg ∧ El.TgL es
end

theorem El.TgL.at {l : List El} (h : El.TgL l) {i : Nat} (hi : i < l.length) : l[i].Tg := by
  induction l generalizing i with
  | nil => simp at hi
  | cons e es ih =>
    simp only [El.TgL] at h
    cases i with
    | zero => exact h.1
    | succ i => exact ih h.2 (by simpa using hi)

def cstep (a z : Int) : Int := if 1048577 < IntKind.i64.wrap (a + z) then 1048577 else IntKind.i64.wrap (a + z)
/-- What a size comes to. -/
def szOf (c : Int) (k : Bool) (n ct : Int) : Int := if ct > 1048576 then ct else total (tagB c k n).length ct
mutual
/-- How many octets an element comes to, or more than the most. -/
def sizeE : El → Int
  | .mk c k n bs subs => szOf c k n (if k = false then bs.length else contEs 0 subs)
def contEs : Int → List El → Int
  | a, [] => a
  | a, e :: es => contEs (cstep a (sizeE e)) es
end
/-- .. its content. -/
def contE : El → Int
  | .mk _ k _ bs subs => if k = false then bs.length else contEs 0 subs
theorem sizeE_eq (e : El) : sizeE e = szOf e.c e.k e.n (contE e) := by
  cases e; simp only [sizeE, contE]; rfl

theorem sum52b {e : El} {cells : List AV} (hTg : e.Tg) (h : ElA e cells) (h66 : Sm 66 [.agg cells] (.int .i64 (contE e))) : Sm 52 [.agg cells] (.int .i64 (sizeE e)) := by
  obtain ⟨c, k, n, bs, subs⟩ := e
  obtain ⟨nl1, ex1, cp1, nl2, cs2, cp2, rfl, -⟩ := h.out
  simp only [El.Tg] at hTg
  refine sum_vc (vc52 ..) ?_
  rw [sizeE_eq]
  unfold szOf
  refine ⟨_, h66, br_i (fun h1 => ?_) (fun h1 => ⟨_, sum68 hTg.1, _, sum67 _ _, ?_⟩)⟩
  · have h1 := of_decide_eq_true h1
    rw [if_pos h1]
  · have h1 := of_decide_eq_false h1
    rw [if_neg h1]; rfl

theorem loop66 {subs : List El} (ih : ∀ e ∈ subs, ∀ cells, e.Tg → ElA e cells → Sm 52 [.agg cells] (.int .i64 (sizeE e))) (hTg : El.TgL subs) {nls : Bool} {css : List AV} {cps : Option Nat} (hl : subs.length < 2 ^ 48) (hn : nls = true → subs = []) (hs : ElsA subs css) :
    ∀ (x : Nat × Int) (kvs : List (Nat × AV)) (σ : St), (x.1 ≤ subs.length ∧ kvs = [(3, .int .i64 x.2), (14, .lsl nls 0 css subs.length cps), (15, .int .i64 (subs.length : Nat)), (16, .int .i64 x.1)] ∧ σ = ⟨[], 0⟩) →
      ∃ ae kvs' σ', (ae = .exit 0 ∧ kvs' = [(3, .int .i64 (contEs x.2 (subs.drop x.1)))] ∧ σ' = ⟨[], 0⟩) ∧ Cd 0 (.loop (bodyL Tryd.f66 0)) (frOf 27 kvs) σ ae (frOf 27 kvs') σ' := by
  refine loop_by (tb := tb_r66) (f := 66) (c := bodyL Tryd.f66 0) (k := 0) (N := 27) (keepN := [3, 14, 15, 16]) (keepX := [3]) env_ok _ _ (fun x => subs.length - x.1) ?_
  rintro ⟨i, a⟩ kvs σ ⟨hi, rfl, rfl⟩
  simp only at hi ⊢
  rw [r66]
  refine br_i (fun hlt => ?_) (fun hge => ?_)
  · have hlt : i < subs.length := by simpa using hlt
    obtain ⟨c5, k5, n5, bs5, ss5, nla, exa, cpa, nlb, csb, cpb, tl, hget, hdrop, hel⟩ := hs.cell hlt
    have hxe : subs[i] = El.mk c5 k5 n5 bs5 ss5 := by rw [List.getElem?_eq_getElem hlt] at hget; exact Option.some.inj hget
    have hmem : El.mk c5 k5 n5 bs5 ss5 ∈ subs := by rw [← hxe]; exact List.getElem_mem _
    have hsd : subs.drop i = El.mk c5 k5 n5 bs5 ss5 :: subs.drop (i + 1) := by rw [← hxe]; exact List.drop_eq_getElem_cons hlt
    have hrec := ih _ hmem _ (by rw [← hxe]; exact hTg.at hlt) hel
    have hnl : nls = false := by
      cases nls
      · rfl
      · rw [hn rfl] at hlt; simp at hlt
    have hw : IntKind.i64.wrap ((i : Int) + 1) = ((i + 1 : Nat) : Int) := by rw [wrap_small (by omega) (by omega)]; simp
    refine ⟨hnl, by omega, by omega, _, _, _, _, _, _, _, _, _, _, _, _, by rw [Int.toNat_natCast]; exact hdrop, _, hrec, ?_⟩
    refine ⟨(i + 1, cstep a (sizeE (.mk c5 k5 n5 bs5 ss5))), by simp only; omega, ⟨by simp only; omega, by rw [hw]; rfl, rfl⟩, ?_⟩
    rintro ae kvs σ ⟨h1, h2, h3⟩
    refine ⟨h1, ?_, h3⟩
    rw [h2, hsd]; simp only [contEs]
  · have hge : i = subs.length := by
      have : ¬ i < subs.length := by simpa using hge
      omega
    rw [hge, List.drop_length]
    refine ⟨rfl, ?_, rfl⟩
    simp only [contEs]

theorem sum66_52 : ∀ (e : El) (cells : List AV), e.Tg → ElA e cells → Sm 66 [.agg cells] (.int .i64 (contE e)) ∧ Sm 52 [.agg cells] (.int .i64 (sizeE e)) := by
  refine El.ind fun c k n bs subs ih => ?_
  intro cells hTg h
  have h0 := h
  have hTg0 := hTg
  simp only [El.Tg] at hTg
  obtain ⟨nl1, ex1, cp1, nl2, cs2, cp2, rfl, hc1, hl1, hn1, hc2, hl2, hn2, hs⟩ := h.out
  have h66 : Sm 66 [.agg [.int .u8 c, .bool k, .int .u32 n, .lsl nl1 0 (bs.map (AV.int .u8) ++ ex1) bs.length cp1, .lsl nl2 0 cs2 subs.length cp2]] (.int .i64 (contE (.mk c k n bs subs))) := by
    refine sum_vc (vc66 ..) ?_
    rw [show contE (.mk c k n bs subs) = if k = false then (bs.length : Int) else contEs 0 subs from rfl]
    refine br_i (fun hk => ?_) (fun hk => ?_)
    · have hk : k = false := by simpa using hk
      rw [if_pos hk]
    · have hk : k = true := by simpa using hk
      rw [if_neg (by simp [hk])]
      obtain ⟨ae, kvs', σ', ⟨rfl, rfl, rfl⟩, hcd⟩ := loop66 (nls := nl2) (cps := cp2) (fun e he cells hT hA => (ih e he cells hT hA).2) hTg.2 hl2 hn2 hs (0, 0) _ _ ⟨by simp, rfl, rfl⟩
      exact ⟨_, hcd, rfl⟩
  exact ⟨h66, sum52b hTg0 h0 h66⟩

/-- Size. -/
def SizeE (e : El) : Int := if checkE e ≠ 0 then 0 else if sizeE e > 1048576 then 0 else sizeE e

theorem sum33 {e : El} {cells : List AV} (hTg : e.Tg) (h : ElA e cells) : Sm 33 [.agg cells] (.int .i64 (SizeE e)) := by
  have h0 := h
  obtain ⟨_, _, _, _, _, _, _, _, _, _, _, rfl⟩ := h.cells
  refine sum_vc (vc33 ..) ?_
  unfold SizeE
  refine ⟨_, sum37 h0, br_i (fun h1 => ?_) (fun h1 => ⟨_, (sum66_52 _ _ hTg h0).2, br_i (fun h2 => ?_) (fun h2 => ?_)⟩)⟩
  · have h1 : checkE e ≠ 0 := by simpa using h1
    rw [if_pos h1]
  · have h1 : ¬ checkE e ≠ 0 := by simpa using h1
    rw [if_neg h1, if_pos (of_decide_eq_true h2)]
  · have h1 : ¬ checkE e ≠ 0 := by simpa using h1
    rw [if_neg h1, if_neg (of_decide_eq_false h2)]

end Go.Vid
