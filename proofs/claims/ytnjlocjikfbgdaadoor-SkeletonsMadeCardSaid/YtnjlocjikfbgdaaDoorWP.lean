/-
The reader of elements.
-/
import Derived.Test.YtnjlocjikfbgdaaDoorWM
set_option linter.all false
namespace Go.Vid
open Go.Proofs
set_option maxRecDepth 100000
set_option linter.unusedVariables false
section
open AExit AOut AV IntKind

end

/-! the reader -/
def slc (b : List Int) (ps to : Nat) : List Int := (b.drop ps).take (to - ps)

theorem slc_len {b : List Int} {ps to : Nat} (h : to ≤ b.length) : (slc b ps to).length = to - ps := by
  unfold slc; simp; omega

theorem slc_byt {b : List Int} (hb : Byt b) (ps to : Nat) : Byt (slc b ps to) := fun x hx => hb x (List.mem_of_mem_drop (List.mem_of_mem_take hx))

theorem si_slc {b : List Int} {nl : Bool} {ex : List AV} {cp : Option Nat} (hl : b.length < 2 ^ 48) (hn : nl = true → b = []) (hc : capOk b.length cp) {ps to : Nat} (h1 : ps ≤ to) (h2 : to ≤ b.length) :
    SI .u8 (slc b ps to) (.lsl nl 0 (if to = ps then [] else List.drop (ps * 1) (b.map (AV.int .u8) ++ ex)) (to - ps) (cp.map fun x => x - ps)) := by
  have hlen := slc_len (b := b) (ps := ps) h2
  refine ⟨nl, if to = ps then [] else (b.drop to).map (AV.int .u8) ++ ex, cp.map fun x => x - ps, ?_, ?_, by omega, ?_⟩
  · rw [hlen]
    congr 1
    split
    · rename_i h
      subst h
      simp [slc]
    · rw [Nat.mul_one, List.drop_append_of_le_length (by simp; omega), ← List.map_drop, ← List.append_assoc, ← List.map_append]
      congr 2
      unfold slc
      have : b.drop to = (b.drop ps).drop (to - ps) := by rw [List.drop_drop]; congr 1; omega
      rw [this, List.take_append_drop]
  · intro c hcc
    cases cp with
    | none => cases hcc
    | some c0 =>
      have := hc c0 rfl
      cases hcc
      show _ ≤ c0 - ps
      omega
  · intro h
    have := hn h
    subst this
    simp [slc]

inductive RdR where
  | bad (ps err : Int) (cnt : Nat)
  | ok (e : El) (next cnt : Nat)
inductive RdLs where
  | bad (ps err : Int) (cnt : Nat)
  | ok (l : List El) (cnt : Nat)

def rdLoop (rd : Nat → Nat → RdR) (to : Nat) : Nat → Nat → Nat → List El → RdLs
  | 0, _, cnt, acc => .ok acc cnt
  | f + 1, ps, cnt, acc => if ps < to then (match rd ps cnt with
    | .bad a e c => .bad a e c
    | .ok x nx c => rdLoop rd to f nx c (acc ++ [x])) else .ok acc cnt

/-- Behind the tag. -/
def rdIn (rd : Nat → Nat → Nat → RdR) (b : List Int) (tg : Int × Bool × Int) (ps a1 to cnt : Nat) : RdR :=
  if cnt = 8192 then .bad ps 3 cnt
  else if (lenGet (slc b a1 to)).2.2 = 7 then .bad to 7 (cnt + 1)
  else if (lenGet (slc b a1 to)).2.2 ≠ 0 then .bad a1 (lenGet (slc b a1 to)).2.2 (cnt + 1)
  else if (lenGet (slc b a1 to)).1 > (to : Int) - a1 - (lenGet (slc b a1 to)).2.1 then .bad to 7 (cnt + 1)
  else if tg.2.1 = false then .ok (.mk tg.1 tg.2.1 tg.2.2 (slc b (a1 + (lenGet (slc b a1 to)).2.1.toNat) (a1 + (lenGet (slc b a1 to)).2.1.toNat + (lenGet (slc b a1 to)).1.toNat)) []) (a1 + (lenGet (slc b a1 to)).2.1.toNat + (lenGet (slc b a1 to)).1.toNat) (cnt + 1)
  else match rdLoop (fun p c => rd p (a1 + (lenGet (slc b a1 to)).2.1.toNat + (lenGet (slc b a1 to)).1.toNat) c) (a1 + (lenGet (slc b a1 to)).2.1.toNat + (lenGet (slc b a1 to)).1.toNat) (to + 2) (a1 + (lenGet (slc b a1 to)).2.1.toNat) (cnt + 1) [] with
    | .bad a e c => .bad a e c
    | .ok l c => .ok (.mk tg.1 tg.2.1 tg.2.2 [] l) (a1 + (lenGet (slc b a1 to)).2.1.toNat + (lenGet (slc b a1 to)).1.toNat) c

/-- The element at an offset, 'k' levels from the last allowed. -/
def rdE (b : List Int) : Nat → Nat → Nat → Nat → RdR
  | 0, ps, to, cnt => if (tagGet (slc b ps to)).2.2 = 7 then .bad to 7 cnt else if (tagGet (slc b ps to)).2.2 ≠ 0 then .bad ps (tagGet (slc b ps to)).2.2 cnt else .bad ps 12 cnt
  | k + 1, ps, to, cnt => if (tagGet (slc b ps to)).2.2 = 7 then .bad to 7 cnt else if (tagGet (slc b ps to)).2.2 ≠ 0 then .bad ps (tagGet (slc b ps to)).2.2 cnt
    else rdIn (rdE b k) b (tagGet (slc b ps to)).1 ps (ps + (tagGet (slc b ps to)).2.1.toNat) to cnt

theorem num3_rng {n : Nat} {sz : Int} (h : (num3 n sz).2.2 = 0) : (num3 n sz).2.1 = sz := by
  unfold num3 at h ⊢
  split
  · rename_i h1; rw [if_pos h1] at h; simp at h
  · rfl

theorem numM_rng {s : List Int} (h : (numM s).2.2 = 0) : 2 ≤ (numM s).2.1 ∧ (numM s).2.1 ≤ s.length := by
  unfold numM at h ⊢
  split at h
  · rename_i z0 z1 r
    split at h
    · simp at h
    · rename_i h1
      rw [if_neg h1]
      split at h
      · rename_i h2
        rw [if_pos h2, num3_rng h]; simp; omega
      · rename_i h2
        rw [if_neg h2]
        split at h
        · simp at h
        · split at h
          · rename_i h3
            rw [if_pos h3, num3_rng h]; simp; omega
          · rename_i h3
            rw [if_neg h3]
            split at h
            · simp at h
            · split at h
              · rename_i h4
                rw [if_pos h4, num3_rng h]; simp; omega
              · rename_i h4
                rw [if_neg h4]
                split at h
                · simp at h
                · split at h
                  · simp at h
                  · rename_i h5
                    rw [if_neg h5, num3_rng h]; simp; omega
  · simp at h

theorem tagGet_rng {s : List Int} (h : (tagGet s).2.2 = 0) : 1 ≤ (tagGet s).2.1 ∧ (tagGet s).2.1 ≤ s.length := by
  match s with
  | [] => simp [tagGet] at h
  | b :: r =>
    simp only [tagGet] at h ⊢
    split at h
    · rename_i h1
      rw [if_pos h1]
      split at h
      · rename_i h2
        rw [if_pos h2]
        split at h
        · rename_i h3; exact absurd h h3
        · rename_i h3
          rw [if_neg h3]
          have := numM_rng h2
          simp only; omega
      · rename_i h2; exact absurd h h2
    · rename_i h1
      rw [if_neg h1]
      split at h
      · rename_i h3; exact absurd h h3
      · rename_i h3
        rw [if_neg h3]; simp; omega

theorem lenV_rng {x y z : Int} (hx : 0 ≤ x ∧ x < 256) (hy : 0 ≤ y ∧ y < 256) (hz : 0 ≤ z ∧ z < 256) : 0 ≤ lenV x y z ∧ lenV x y z < 2 ^ 24 := by
  unfold lenV
  rw [wrap_small (x := x) (by omega) (by omega), wrap_small (x := y) (by omega) (by omega), wrap_small (x := z) (by omega) (by omega), wrap_small (x := x * 65536) (by omega) (by omega), wrap_small (x := y * 256) (by omega) (by omega)]
  have h1 : Int.toNat (x * 65536 % 18446744073709551616) < 2 ^ 24 := by omega
  have h2 : Int.toNat (y * 256 % 18446744073709551616) < 2 ^ 24 := by omega
  have h3 : Int.toNat (z % 18446744073709551616) < 2 ^ 24 := by omega
  have h4 := Nat.or_lt_two_pow h1 h2
  rw [wrap_small (x := ((Int.toNat (x * 65536 % 18446744073709551616) ||| Int.toNat (y * 256 % 18446744073709551616) : Nat) : Int)) (by omega) (by omega)]
  have h5 : Int.toNat (((Int.toNat (x * 65536 % 18446744073709551616) ||| Int.toNat (y * 256 % 18446744073709551616) : Nat) : Int) % 18446744073709551616) < 2 ^ 24 := by omega
  have h6 := Nat.or_lt_two_pow h5 h3
  rw [wrap_small (by omega) (by omega)]
  omega

theorem lenGet_rng {s : List Int} (hs : Byt s) (h : (lenGet s).2.2 = 0) : 1 ≤ (lenGet s).2.1 ∧ (lenGet s).2.1 ≤ s.length ∧ 0 ≤ (lenGet s).1 ∧ (lenGet s).1 < 2 ^ 24 := by
  match s with
  | [] => simp [lenGet] at h
  | b :: r =>
    have hb := hs b (List.mem_cons_self ..)
    simp only [lenGet] at h ⊢
    split at h
    · rename_i h1
      rw [if_pos h1]; simp; omega
    · rename_i h1
      rw [if_neg h1]
      split at h
      · simp at h
      · rename_i h2
        rw [if_neg h2]
        split at h
        · simp at h
        · rename_i h3
          rw [if_neg h3]
          split at h
          · simp at h
          · rename_i h4
            rw [if_neg h4]
            split at h
            · simp at h
            · rename_i h5
              rw [if_neg h5]
              split at h
              · simp at h
              · rename_i h6
                rw [if_neg h6]
                simp only [List.length_cons]
                have hz : (0 : Int) ≤ 0 ∧ (0 : Int) < 256 := by omega
                have hn : 0 ≤ lenN (b - 128).toNat r ∧ lenN (b - 128).toNat r < 2 ^ 24 := by
                  have hb3 : b = 129 ∨ b = 130 ∨ b = 131 := by omega
                  rcases hb3 with rfl | rfl | rfl
                  · match r, h4 with
                    | a :: t, _ => exact lenV_rng hz hz (hs a (by simp))
                    | [], h4 => exact absurd h4 (by simp)
                  · match r, h4 with
                    | a :: c :: t, _ => exact lenV_rng hz (hs a (by simp)) (hs c (by simp))
                    | [_], h4 => exact absurd h4 (by simp)
                    | [], h4 => exact absurd h4 (by simp)
                  · match r, h4 with
                    | a :: c :: d :: t, _ => exact lenV_rng (hs a (by simp)) (hs c (by simp)) (hs d (by simp))
                    | [_, _], h4 => exact absurd h4 (by simp)
                    | [_], h4 => exact absurd h4 (by simp)
                    | [], h4 => exact absurd h4 (by simp)
                omega

theorem sum73 {l : List Int} {a : AV} (h : SI .u8 l a) (hb : l.length ≤ 2 ^ 20) : ∃ b, SI .u8 l b ∧ Sm 73 [a] b := by
  obtain ⟨nl, ex, cp, rfl, hc, hl, hn⟩ := h
  refine sum_ex _ (vc73 ..) ?_
  have e1 : List.take (l.length * 1) (l.map (AV.int .u8) ++ ex) = l.map (AV.int .u8) := by rw [Nat.mul_one]; exact List.take_left' (List.length_map _)
  rw [e1]
  refine br_i (fun h1 => ?_) (fun h1 => ⟨by simp, br_i (fun h2 => ?_) (fun h2 => br_f ?_ ?_)⟩)
  · have := hn h1
    subst this
    exact ⟨_, rfl, true, [], some 0, rfl, capOk_some, by simp, fun _ => rfl⟩
  · have h2 : l = [] := List.length_eq_zero_iff.1 (Nat.eq_of_beq_eq_true h2)
    subst h2
    exact ⟨rfl, _, rfl, false, [], some 0, rfl, capOk_some, by simp, fun _ => rfl⟩
  · have h2 : l.length ≠ 0 := by intro h; rw [h] at h2; simp at h2
    rw [Bool.eq_false_iff]
    intro h
    have := Nat.le_of_ble_eq_true h
    omega
  · exact ⟨by omega, by omega, by omega, by simp, _, rfl, false, [], none, by simp, capOk_none, hl, by simp⟩

theorem sum74 {subs : List El} {nl : Bool} {cs : List AV} {cp : Option Nat} (hc : capOk subs.length cp) (hs : ElsA subs cs) (hn : nl = true → subs = []) : ∃ nl2 cs2, ElsA subs cs2 ∧ (nl2 = true → subs = []) ∧ Sm 74 [.lsl nl 0 cs subs.length cp] (.lsl nl2 0 cs2 subs.length (some subs.length)) := by
  refine ⟨nl, if subs.length = 0 then [] else cs, ?_, hn, sum_vc (vc74 ..) ⟨by omega, ?_, by omega, by omega, rfl⟩⟩
  · split
    · rename_i h; rw [List.length_eq_zero_iff.1 h]; simp only [ElsA]
    · exact hs
  · cases cp with
    | none => simp
    | some c => have := hc c rfl; simp; omega

end Go.Vid
