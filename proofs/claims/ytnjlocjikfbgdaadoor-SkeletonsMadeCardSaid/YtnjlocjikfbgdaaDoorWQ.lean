/-
The reader of elements: its loop.
-/
import Derived.Test.YtnjlocjikfbgdaaDoorWP
set_option linter.all false
namespace Go.Vid
open Go.Proofs
set_option maxRecDepth 100000
set_option linter.unusedVariables false
section
open AExit AOut AV IntKind

end

abbrev rdO (nl : Bool) (b : List Int) (ex : List AV) (cp : Option Nat) (cnt : Nat) : Option AObj := some (.cells [.lsl nl 0 (b.map (AV.int .u8) ++ ex) b.length cp, .int .i64 cnt] 119 false)
abbrev oZ : Option AObj := some (.cells zC 32 false)

def Rd57 (nl : Bool) (b : List Int) (ex : List AV) (cp : Option Nat) (ps to cnt : Nat) (depth : Int) : RdR → Prop
  | .bad a e c => Cl 57 [.ref 0 0, .int .i64 ps, .int .i64 to, .int .i64 depth] ⟨[rdO nl b ex cp cnt], 0⟩ (.panic (.iface 116 (.agg [.int .i64 a, .int .i64 e]))) ⟨[rdO nl b ex cp c], 0⟩
  | .ok e nx c => (ps < nx ∧ nx ≤ to ∧ c ≤ 8192 ∧ e.Bd) ∧ ∃ cells, ElA e cells ∧ Cl 57 [.ref 0 0, .int .i64 ps, .int .i64 to, .int .i64 depth] ⟨[rdO nl b ex cp cnt], 0⟩ (.ret (.tup [.agg cells, .int .i64 nx])) ⟨[rdO nl b ex cp c], 0⟩

theorem El.BdL.snoc {l : List El} (h : El.BdL l) {x : El} (hx : x.Bd) : El.BdL (l ++ [x]) := by
  induction l with
  | nil => simp only [List.nil_append, El.BdL]; exact ⟨hx, trivial⟩
  | cons e es ih => simp only [El.BdL] at h; simp only [List.cons_append, El.BdL]; exact ⟨h.1, ih h.2⟩

theorem loop57 {nl : Bool} {b : List Int} {ex : List AV} {cp : Option Nat} {rd : Nat → Nat → RdR} {to : Nat} {depth : Int} (hto : to ≤ 2 ^ 20)
    (hrd : ∀ p c, p < to → c ≤ 8192 → Rd57 nl b ex cp p to c (IntKind.i64.wrap (depth + 1)) (rd p c)) (ec en : Int) (ek : Bool) (R : RdLs) :
    ∀ (x : Nat × Nat × Nat × List El × List AV) (kvs : List (Nat × AV)) (σ : St), (to < x.1 + x.2.1 ∧ rdLoop rd to x.1 x.2.1 x.2.2.1 x.2.2.2.1 = R ∧ x.2.1 ≤ to ∧ x.2.2.1 ≤ 8192 ∧ x.2.2.2.1.length ≤ x.2.1 ∧ El.BdL x.2.2.2.1 ∧
        kvs = [(0, .ref 0 0), (1, .int .i64 x.2.1), (2, .int .i64 to), (3, .int .i64 depth), (8, .ref 1 0), (14, .ref 2 0)] ∧
        (if x.2.2.2.1 = [] then σ = ⟨[rdO nl b ex cp x.2.2.1, oZ, some (.cells [.int .u8 ec, .bool ek, .int .u32 en, nilS, nilS] 32 false)], 0⟩
         else ElsA x.2.2.2.1 x.2.2.2.2 ∧ x.2.2.2.2.length = x.2.2.2.1.length * 5 ∧ tagLeL 0 x.2.2.2.2 = true ∧ σ = ⟨[rdO nl b ex cp x.2.2.1, oZ, some (.cells [.int .u8 ec, .bool ek, .int .u32 en, nilS, .rsl 3 0 x.2.2.2.1.length none] 32 false), some (.cells x.2.2.2.2 32 true)], 0⟩)) →
      ∃ ae kvs' σ', (match R with
        | .bad a e c => ae = .panic (.iface 116 (.agg [.int .i64 a, .int .i64 e])) ∧ kvs' = [(2, .int .i64 to), (8, .ref 1 0), (14, .ref 2 0)] ∧ ∃ r, σ' = ⟨rdO nl b ex cp c :: r, 0⟩ ∧ r.length ≤ 3
        | .ok l c => ae = .exit 2 ∧ c ≤ 8192 ∧ kvs' = [(2, .int .i64 to), (8, .ref 1 0), (14, .ref 2 0)] ∧ l.length ≤ to ∧ El.BdL l ∧
          (if l = [] then σ' = ⟨[rdO nl b ex cp c, oZ, some (.cells [.int .u8 ec, .bool ek, .int .u32 en, nilS, nilS] 32 false)], 0⟩
           else ∃ cso, ElsA l cso ∧ tagLeL 0 cso = true ∧ σ' = ⟨[rdO nl b ex cp c, oZ, some (.cells [.int .u8 ec, .bool ek, .int .u32 en, nilS, .rsl 3 0 l.length none] 32 false), some (.cells cso 32 true)], 0⟩)) ∧
        Cd 1 (.loop (bodyL Tryd.f57 2)) (frOf 151 kvs) σ ae (frOf 151 kvs') σ' := by
  refine loop_by (tb := tb_r57) (f := 57) (c := bodyL Tryd.f57 2) (k := 1) (N := 151) (keepN := [0, 1, 2, 3, 8, 14]) (keepX := [2, 8, 14]) env_ok _ _ (fun x => to - x.2.1) ?_
  rintro ⟨f, ps, cnt, acc, cso⟩ kvs σ ⟨hf, hR, hps, hcnt, hal, hbd, rfl, hσ⟩
  simp only at hf hR hps hcnt hal hbd hσ ⊢
  match f, hf, hR with
  | 0, hf, _ => omega
  | f + 1, hf, hR =>
  simp only [rdLoop] at hR
  by_cases hacc : acc = []
  · rw [if_pos hacc] at hσ
    subst hσ
    subst hacc
    rw [r57n]
    refine br_i (fun hlt => ?_) (fun hge => ?_)
    · have hlt : ps < to := by have := of_decide_eq_true hlt; omega
      rw [if_pos hlt] at hR
      have hr := hrd ps cnt hlt hcnt
      match hrr : rd ps cnt with
      | .bad a e c =>
        rw [hrr] at hR hr
        simp only at hR
        subst hR
        exact ⟨_, _, _, _, _, .inr ⟨_, _, hr, rfl, rfl, _, rfl, by simp⟩⟩
      | .ok x nx c =>
        rw [hrr] at hR hr
        simp only at hR
        obtain ⟨⟨q1, q2, q3, q4⟩, cells, hel, hcl⟩ := hr
        have htag := hel.tag
        have hlen := hel.len
        have hel0 := hel
        obtain ⟨xc, xk, xn, x1, x2, x3, x4, x5, x6, x7, x8, rfl⟩ := hel.cells
        refine ⟨_, _, _, _, _, .inl ⟨_, _, _, _, _, _, _, _, _, _, _, _, hcl, ?_⟩⟩
        refine ⟨by omega, by omega, .inl rfl, by omega, by omega, by omega, rfl, ⟨f, nx, c, [x], [.int .u8 xc, .bool xk, .int .u32 xn, .lsl x1 0 x2 x3 x4, .lsl x5 0 x6 x7 x8]⟩, by simp only; omega, ⟨by simp only; omega, hR, q2, q3, by simp only [List.length_cons, List.length_nil]; omega, by simp only [El.BdL]; exact ⟨q4, trivial⟩, rfl, ?_⟩, fun ae kvs σ h => h⟩
        rw [if_neg (by simp)]
        refine ⟨?_, ?_, htag, rfl⟩
        · simp only [ElsA]; exact ⟨_, [], by simp, hel0, trivial⟩
        · simp
    · have hge : ¬ ps < to := by have := of_decide_eq_false hge; omega
      rw [if_neg hge] at hR
      subst hR
      refine ⟨rfl, hcnt, rfl, by simp, hbd, ?_⟩
      rw [if_pos rfl]
  · rw [if_neg hacc] at hσ
    obtain ⟨h1, h2, h3, rfl⟩ := hσ
    rw [r57]
    refine br_i (fun hlt => ?_) (fun hge => ?_)
    · have hlt : ps < to := by have := of_decide_eq_true hlt; omega
      rw [if_pos hlt] at hR
      have hr := hrd ps cnt hlt hcnt
      match hrr : rd ps cnt with
      | .bad a e c =>
        rw [hrr] at hR hr
        simp only at hR
        subst hR
        exact ⟨_, _, _, _, _, .inr ⟨_, _, hr, h3, rfl, rfl, _, rfl, by simp⟩⟩
      | .ok x nx c =>
        rw [hrr] at hR hr
        simp only at hR
        obtain ⟨⟨q1, q2, q3, q4⟩, cells, hel, hcl⟩ := hr
        have htag := hel.tag
        have hlen := hel.len
        have hel0 := hel
        obtain ⟨xc, xk, xn, x1, x2, x3, x4, x5, x6, x7, x8, rfl⟩ := hel.cells
        refine ⟨_, _, _, _, _, .inl ⟨_, _, _, _, _, _, _, _, _, _, _, _, hcl, by omega, by omega, h2, by omega, by omega, by rw [tagLeL_append, h3, htag]; rfl, ?_⟩⟩
        refine ⟨⟨f, nx, c, acc ++ [x], cso ++ [.int .u8 xc, .bool xk, .int .u32 xn, .lsl x1 0 x2 x3 x4, .lsl x5 0 x6 x7 x8]⟩, by simp only; omega, ⟨by simp only; omega, hR, q2, q3, by simp only [List.length_append, List.length_cons, List.length_nil]; omega, hbd.snoc q4, rfl, ?_⟩, fun ae kvs σ h => h⟩
        rw [if_neg (by simp)]
        refine ⟨?_, ?_, ?_, ?_⟩
        · have := ElsA.snoc h1 h2 hel0 (r := [])
          rw [List.append_nil] at this
          exact this
        · simp only [List.length_append, h2, List.length_cons, List.length_nil]; omega
        · rw [tagLeL_append, h3, htag]; rfl
        · simp only [List.length_append, List.length_cons, List.length_nil]
    · have hge : ¬ ps < to := by have := of_decide_eq_false hge; omega
      rw [if_neg hge] at hR
      subst hR
      refine ⟨h3, rfl, hcnt, rfl, by omega, hbd, ?_⟩
      rw [if_neg hacc]
      exact ⟨cso, h1, h3, rfl⟩

end Go.Vid
