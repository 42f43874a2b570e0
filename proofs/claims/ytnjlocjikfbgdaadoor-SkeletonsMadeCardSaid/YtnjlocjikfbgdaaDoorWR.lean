/-
The reader of elements: a summary.
-/
import Derived.Test.YtnjlocjikfbgdaaDoorWQ
set_option linter.all false
namespace Go.Vid
open Go.Proofs
set_option maxRecDepth 100000
set_option linter.unusedVariables false
section
open AExit AOut AV IntKind

end

def RdPost (nl : Bool) (b : List Int) (ex : List AV) (cp : Option Nat) (ps to : Nat) (R : RdR) (out : AOut) (s : St) : Prop := match R with
  | .bad a e c => out = .panic (.iface 116 (.agg [.int .i64 a, .int .i64 e])) ∧ s = ⟨[rdO nl b ex cp c], 0⟩
  | .ok e nx c => (ps < nx ∧ nx ≤ to ∧ c ≤ 8192 ∧ e.Bd) ∧ ∃ cells, ElA e cells ∧ out = .ret (.tup [.agg cells, .int .i64 nx]) ∧ s = ⟨[rdO nl b ex cp c], 0⟩

theorem rd57_of {tb : List (FuncId × Sc)} {m : Nat} {nl : Bool} {b : List Int} {ex : List AV} {cp : Option Nat} {ps to cnt : Nat} {depth : Int} {R : RdR} {p : Prop}
    (h : fnT Tryd.prog env tb m 57 [.ref 0 0, .int .i64 ps, .int .i64 to, .int .i64 depth] ⟨[rdO nl b ex cp cnt], 0⟩ (fun out σ' => RdPost nl b ex cp ps to R out (σ'.cut 1)) = p) (hp : p) : Rd57 nl b ex cp ps to cnt depth R := by
  obtain ⟨out, σ', hk, hc⟩ := fnT_ok env_ok m 57 _ _ _ (h ▸ hp)
  unfold RdPost at hk
  match R with
  | .bad a e c =>
    obtain ⟨rfl, hs⟩ := hk
    have := hc.cut 1 (by simp) rfl
    rw [hs] at this
    exact this
  | .ok e nx c =>
    obtain ⟨hf, cells, hel, rfl, hs⟩ := hk
    refine ⟨hf, cells, hel, ?_⟩
    have := hc.cut 1 (by simp) (by
      obtain ⟨_, _, _, _, _, _, _, _, _, _, _, rfl⟩ := hel.cells
      rfl)
    rw [hs] at this
    exact this

theorem call57 {nl : Bool} {b : List Int} {ex : List AV} {cp : Option Nat} (hb20 : b.length ≤ 2 ^ 20) (hby : Byt b) (hn : nl = true → b = []) (hc : capOk b.length cp) :
    ∀ (k : Nat), k ≤ 16 → ∀ (ps to cnt : Nat), ps ≤ to → to ≤ b.length → cnt ≤ 8192 → Rd57 nl b ex cp ps to cnt (17 - (k : Int)) (rdE b k ps to cnt) := by
  intro k
  induction k with
  | zero =>
    intro _ ps to cnt hpt htb hcnt
    refine rd57_of (vc57 ..) ?_
    have hcap : (to : Int) ≤ ((Option.getD cp b.length : Nat) : Int) := by
      cases cp with
      | none => simp; omega
      | some c => have := hc c rfl; simp; omega
    have h71 := sum71 (si_slc (ex := ex) (by omega) hn hc hpt htb)
    simp only [rdE]
    refine ⟨by omega, hcap, by omega, by omega, _, _, _, _, _, h71, br_i (fun h1 => ?_) (fun h1 => br_i (fun h2 => ?_) (fun h2 => br_t (by simp) ?_))⟩
    · have h1 : (tagGet (slc b ps to)).2.2 = 7 := by simpa using h1
      rw [if_pos h1, h1]
      exact ⟨rfl, rfl⟩
    · have h1 : ¬ (tagGet (slc b ps to)).2.2 = 7 := by simpa using h1
      have h2 : (tagGet (slc b ps to)).2.2 ≠ 0 := by simpa using h2
      rw [if_neg h1, if_pos h2]
      exact ⟨rfl, rfl⟩
    · have h1 : ¬ (tagGet (slc b ps to)).2.2 = 7 := by simpa using h1
      have h2 : ¬ (tagGet (slc b ps to)).2.2 ≠ 0 := by simpa using h2
      rw [if_neg h1, if_neg h2]
      exact ⟨rfl, rfl⟩
  | succ k ih =>
    intro hk ps to cnt hpt htb hcnt
    refine rd57_of (vc57 ..) ?_
    have hcap : ∀ t : Nat, t ≤ b.length → (t : Int) ≤ ((Option.getD cp b.length : Nat) : Int) := by
      intro t ht
      cases cp with
      | none => simp; omega
      | some c => have := hc c rfl; simp; omega
    have h71 := sum71 (si_slc (ex := ex) (by omega) hn hc hpt htb)
    have hsl := slc_len (b := b) (ps := ps) htb
    simp only [rdE]
    refine ⟨by omega, hcap to htb, by omega, by omega, _, _, _, _, _, h71, br_i (fun h1 => ?_) (fun h1 => br_i (fun h2 => ?_) (fun h2 => br_f ?_ ?_))⟩
    · have h1 : (tagGet (slc b ps to)).2.2 = 7 := by simpa using h1
      rw [if_pos h1, h1]
      exact ⟨rfl, rfl⟩
    · have h1 : ¬ (tagGet (slc b ps to)).2.2 = 7 := by simpa using h1
      have h2 : (tagGet (slc b ps to)).2.2 ≠ 0 := by simpa using h2
      rw [if_neg h1, if_pos h2]
      exact ⟨rfl, rfl⟩
    · exact decide_eq_false (by omega)
    have h1 : ¬ (tagGet (slc b ps to)).2.2 = 7 := by simpa using h1
    have h2 : ¬ (tagGet (slc b ps to)).2.2 ≠ 0 := by simpa using h2
    rw [if_neg h1, if_neg h2]
    have hrg := tagGet_rng (Decidable.not_not.1 h2)
    rw [hsl] at hrg
    generalize tagGet (slc b ps to) = tg at hrg ⊢
    obtain ⟨⟨c, kk, n⟩, tsz, terr⟩ := tg
    simp only at hrg ⊢
    have hw1 : IntKind.i64.wrap ((ps : Int) + tsz) = ((ps + tsz.toNat : Nat) : Int) := by rw [wrap_small (by omega) (by omega)]; omega
    rw [hw1]
    have ha1 : ps + tsz.toNat ≤ to := by omega
    have ha1' : ps < ps + tsz.toNat := by omega
    generalize ps + tsz.toNat = a1 at ha1 ha1' ⊢
    unfold rdIn
    refine br_i (fun h3 => ?_) (fun h3 => ?_)
    · have h3 : cnt = 8192 := by have : (cnt : Int) = 8192 := by simpa using h3
                                 omega
      rw [if_pos h3]
      exact ⟨rfl, rfl⟩
    have h3 : ¬ cnt = 8192 := by intro e; subst e; simp at h3
    rw [if_neg h3]
    have hw2 : IntKind.i64.wrap ((cnt : Int) + 1) = ((cnt + 1 : Nat) : Int) := by rw [wrap_small (by omega) (by omega)]; omega
    rw [hw2]
    have h72 := sum72 (slc_byt hby a1 to) (si_slc (ex := ex) (by omega) hn hc ha1 htb)
    have hsl2 := slc_len (b := b) (ps := a1) htb
    refine ⟨by omega, hcap to htb, by omega, by omega, _, _, _, h72, br_i (fun h4 => ?_) (fun h4 => br_i (fun h5 => ?_) (fun h5 => ?_))⟩
    · have h4 : (lenGet (slc b a1 to)).2.2 = 7 := by simpa using h4
      rw [if_pos h4, h4]
      exact ⟨rfl, rfl⟩
    · have h4 : ¬ (lenGet (slc b a1 to)).2.2 = 7 := by simpa using h4
      have h5 : (lenGet (slc b a1 to)).2.2 ≠ 0 := by simpa using h5
      rw [if_neg h4, if_pos h5]
      exact ⟨rfl, rfl⟩
    have h4 : ¬ (lenGet (slc b a1 to)).2.2 = 7 := by simpa using h4
    have h5 : ¬ (lenGet (slc b a1 to)).2.2 ≠ 0 := by simpa using h5
    rw [if_neg h4, if_neg h5]
    have hlr := lenGet_rng (slc_byt hby a1 to) (Decidable.not_not.1 h5)
    rw [hsl2] at hlr
    generalize lenGet (slc b a1 to) = lg at hlr ⊢
    obtain ⟨ln, lsz, lerr⟩ := lg
    simp only at hlr ⊢
    have hw3 : IntKind.i64.wrap (IntKind.i64.wrap ((to : Int) - (a1 : Int)) - lsz) = (to : Int) - a1 - lsz := by rw [wrap_small (x := (to : Int) - a1) (by omega) (by omega), wrap_small (by omega) (by omega)]
    rw [hw3]
    refine br_i (fun h6 => ?_) (fun h6 => ?_)
    · rw [if_pos (of_decide_eq_true h6)]
      exact ⟨rfl, rfl⟩
    have h6 := of_decide_eq_false h6
    rw [if_neg h6]
    have hw4 : IntKind.i64.wrap ((a1 : Int) + lsz) = ((a1 + lsz.toNat : Nat) : Int) := by rw [wrap_small (by omega) (by omega)]; omega
    have hw5 : IntKind.i64.wrap (((a1 + lsz.toNat : Nat) : Int) + ln) = ((a1 + lsz.toNat + ln.toNat : Nat) : Int) := by rw [wrap_small (by omega) (by omega)]; omega
    rw [hw4, hw5]
    have ha2 : a1 < a1 + lsz.toNat := by omega
    have ht2 : a1 + lsz.toNat + ln.toNat ≤ to := by omega
    generalize a1 + lsz.toNat = a2 at ha2 ht2 ⊢
    have hat : a2 ≤ a2 + ln.toNat := by omega
    generalize a2 + ln.toNat = t2 at ht2 hat ⊢
    refine br_i (fun h7 => ?_) (fun h7 => ?_)
    · have h7 : kk = false := by simpa using h7
      rw [if_pos h7]
      have hsl3 := slc_len (b := b) (ps := a2) (show t2 ≤ b.length by omega)
      obtain ⟨v73, hv73, h73⟩ := sum73 (si_slc (ex := ex) (by omega) hn hc hat (show t2 ≤ b.length by omega)) (by omega)
      obtain ⟨v63, hv63, h63⟩ := sum63 hv73
      obtain ⟨_, _, _, rfl, -⟩ := hv73
      have hv630 := hv63
      obtain ⟨_, _, rfl, -⟩ := hv63
      refine ⟨by omega, hcap t2 (by omega), by omega, by omega, _, _, _, _, h73, _, _, _, _, h63, ?_⟩
      refine ⟨⟨by omega, ht2, by omega, ?_⟩, _, ?_, rfl, rfl⟩
      · simp only [El.Bd, El.BdL]; exact ⟨by omega, by simp, trivial⟩
      · simp only [ElA]
        exact ⟨_, _, _, _, rfl, hv630.si, capOk_some, by simp, fun _ => trivial, trivial⟩
    · have h7 : kk = true := by simpa using h7
      rw [if_neg (by simp [h7])]
      have hwd : IntKind.i64.wrap (17 - ((k + 1 : Nat) : Int) + 1) = 17 - (k : Int) := by rw [wrap_small (by omega) (by omega)]; omega
      obtain ⟨ae, kvs', σ', hq, hcd⟩ := loop57 (nl := nl) (b := b) (ex := ex) (cp := cp) (rd := fun p c => rdE b k p t2 c) (to := t2) (depth := 17 - ((k + 1 : Nat) : Int)) (by omega)
        (fun p cc hp hcc => by rw [hwd]; exact ih (by omega) p t2 cc (by omega) (by omega) hcc) c n kk (rdLoop (fun p c => rdE b k p t2 c) t2 (to + 2) a2 (cnt + 1) []) (to + 2, a2, cnt + 1, [], []) _ _
        ⟨by simp only; omega, rfl, hat, by simp only; omega, by simp, by simp only [El.BdL], rfl, by rw [if_pos rfl]⟩
      match hR : rdLoop (fun p c => rdE b k p t2 c) t2 (to + 2) a2 (cnt + 1) [] with
      | .bad a e c' =>
        rw [hR] at hq
        obtain ⟨rfl, rfl, r, rfl, hrl⟩ := hq
        refine ⟨((c' : Nat) : Int), .inr (.inr ⟨a, e, hcd.weak ?_ ?_, ?_⟩)⟩
        · exact ⟨rfl, .inr rfl, rfl, .inr rfl, rfl, .inr rfl, trivial⟩
        · match r, hrl with
          | [], _ => exact ⟨.inl rfl, rfl, rfl, rfl, trivial⟩
          | [_], _ => exact ⟨.inl rfl, .inr rfl, rfl, rfl, trivial⟩
          | [_, _], _ => exact ⟨.inl rfl, .inr rfl, .inr rfl, rfl, trivial⟩
          | [_, _, _], _ => exact ⟨.inl rfl, .inr rfl, .inr rfl, .inr rfl, trivial⟩
        · exact ⟨rfl, rfl⟩
      | .ok l c' =>
        rw [hR] at hq
        obtain ⟨rfl, hc8, rfl, hll, hlb, hq⟩ := hq
        by_cases hl : l = []
        · rw [if_pos hl] at hq
          subst hq
          subst hl
          obtain ⟨nl2, cs2, e1, e2, h74⟩ := sum74 (subs := []) (nl := true) (cs := []) (cp := some 0) capOk_some (by simp only [ElsA]) (fun _ => rfl)
          refine ⟨((c' : Nat) : Int), .inl ⟨hcd, _, _, _, _, h74, ?_⟩⟩
          refine ⟨⟨by omega, ht2, hc8, ?_⟩, _, ?_, rfl, rfl⟩
          · simp only [El.Bd]; exact ⟨by simp, by omega, hlb⟩
          · simp only [ElA]
            exact ⟨_, _, _, _, rfl, ⟨true, [], some 0, rfl, capOk_some, by simp, fun _ => rfl⟩, capOk_some, by simp, fun _ => trivial, e1⟩
        · rw [if_neg hl] at hq
          obtain ⟨cso, hel, htag, rfl⟩ := hq
          obtain ⟨nl2, cs2, e1, e2, h74⟩ := sum74 (subs := l) (nl := false) (cs := cso) (cp := none) capOk_none hel (by simp)
          refine ⟨((c' : Nat) : Int), .inr (.inl ⟨_, _, hcd, htag, _, _, _, _, h74, ?_⟩)⟩
          refine ⟨⟨by omega, ht2, hc8, ?_⟩, _, ?_, rfl, rfl⟩
          · simp only [El.Bd]; exact ⟨by simp, by omega, hlb⟩
          · simp only [ElA]
            exact ⟨_, _, _, _, rfl, ⟨true, [], some 0, rfl, capOk_some, by simp, fun _ => rfl⟩, capOk_some, by omega, e2, e1⟩

end Go.Vid
