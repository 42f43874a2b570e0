/-
From the readings of a row to the readings of the abstract machine: bytes, elements.
-/
import Derived.Test.YtnjlocjikfbgdaaDoorWU
import Derived.Test.YtnjlocjikfbgdaaDoorTie
import Derived.ProofKit
import Derived.WalkKit
import Derived.OpenShut
import Derived.Deep.DeepHandedRow
import Derived.Deep.Slices
import Derived.Deep.Strs
import Derived.WideKeyArgs
set_option linter.all false
namespace Go.Vid
open Go.Proofs
set_option maxRecDepth 100000

/-- All that lies there. -/
def Lies (W : World) (S : Nat → Nat → Prop) : Prop := ∀ b, b < W.heap.size → S 0 b

theorem Lies.inner {W : World} {S : Nat → Nat → Prop} (h : Lies W S) : Lies W (fun j c => j ≤ 0 ∧ S j c) := fun b hb => ⟨Nat.le_refl _, h b hb⟩

theorem cell_there {W : World} {a : Addr} {v : Value} (h : W.cell? a = some v) : a.spot = none ∧ a.block < W.heap.size := by
  unfold World.cell? at h
  cases hb : W.heap[a.block]? with
  | none => simp [hb] at h
  | some o =>
    refine ⟨?_, (Array.getElem?_eq_some_iff.1 hb).1⟩
    cases o with
    | cells c t fz =>
      simp only [hb] at h
      split at h
      · cases h
      · cases hs : a.spot with
        | none => rfl
        | some x => simp [hs] at *
    | _ => simp [hb] at h

theorem add_eq {a : Addr} (h : a.spot = none) (n : Nat) : a.add n = ⟨a.block, a.off + n, none⟩ := by
  cases a
  simp only at h; subst h
  simp only [Addr.add]
  split
  · simp [*]
  · rfl

theorem RdAt.append {P : Program} {w : World} {S : Nat → Nat → Prop} {φ : Nat → Option Nat} {b : Nat} : ∀ {ls : List AV} {bs : List AV} {off : Nat}, RdAt P w S φ ls b off → RdAt P w S φ bs b (off + ls.length) → RdAt P w S φ (ls ++ bs) b off
  | [], bs, off, _, h => by simpa using h
  | a :: ls, bs, off, h1, h2 => by
    simp only [RdAt, List.cons_append] at h1 ⊢
    refine ⟨h1.1, RdAt.append h1.2 ?_⟩
    simp only [List.length_cons] at h2
    rw [show off + 1 + ls.length = off + (ls.length + 1) by omega]
    exact h2

theorem RdAt.of_list {P : Program} {w : World} {S : Nat → Nat → Prop} {φ : Nat → Option Nat} {b : Nat} {ls : List AV} {vs : List Value} {off : Nat} (h : RdL P w S φ ls vs) (ho : ∀ a ∈ ls, a.one = true) (hc : ∀ (i : Nat) (v : Value), vs[i]? = some v → w.cell? ⟨b, off + i, none⟩ = some v) : RdAt P w S φ ls b off :=
  .mk fun i a ha => by
    obtain ⟨v, hv, hr⟩ := h.get ha
    exact ⟨ho a (List.mem_of_getElem? ha), v, hc i v hv, hr⟩

section
variable {H : Type} {enc : TypeId × Value → H} {W : World}

abbrev Sized (t : TypeId) (d : DataW H) : Prop := (DataW.weights Tryd.prog t d).all (· ≤ reachBytes) = true

theorem cells5 : Tryd.prog.cellsOf 5 = 1 := by kernel_rfl
theorem bytes5 : Tryd.prog.bytesOf 5 = 1 := by kernel_rfl
theorem cells22 : Tryd.prog.cellsOf 22 = 1 := by kernel_rfl
theorem cells30 : Tryd.prog.cellsOf 30 = 1 := by kernel_rfl
theorem cells26 : Tryd.prog.cellsOf 26 = 1 := by kernel_rfl
theorem cells27 : Tryd.prog.cellsOf 27 = 1 := by kernel_rfl
theorem cells4 : Tryd.prog.cellsOf 4 = 1 := by kernel_rfl
theorem cells29 : Tryd.prog.cellsOf 29 = 3 := by kernel_rfl
theorem cells32 : Tryd.prog.cellsOf 32 = 5 := by kernel_rfl
theorem bytes32 : Tryd.prog.bytesOf 32 = 56 := by kernel_rfl

def getI : Value → Int
  | .int _ n => n
  | _ => 0

theorem reach_val : reachBytes = 140737488351232 := rfl

/-- A slice of bytes. -/
theorem rd_bytes {n : Nat} {cs : List Value} {d : DataW H} {p : List MemPlace} (h : DataW.trod enc Tryd.prog W 0 (fun _ => true) true n 22 cs = some (d, p)) (hw : Sized 22 d) :
    ∃ v bs a, cs = [v] ∧ SI .u8 bs a ∧ Byt bs ∧ a.one = true ∧ ∀ S, Lies W S → Rd Tryd.prog W S noId a v := by
  rcases Deep.open_slice1 Tryd.underlying22 cells5 h with ⟨rfl, _⟩ | ⟨a, len, cap, m, k, V, D, Pl, rfl, _, hlc, hcm, hm, hx, hV⟩
  · exact ⟨_, [], .lsl true 0 [] 0 (some 0), rfl, ⟨true, [], some 0, rfl, fun c hc => by cases hc; exact Nat.le_refl _, by simp, by simp⟩, by intro b hb; simp at hb, rfl, fun S _ => by simp [Rd]⟩
  · simp only [if_true] at hm
    subst hm
    have hint : ∀ i, i < m → ∃ z, V i = .int .u8 z ∧ 0 ≤ z ∧ z < 256 := by
      intro i hi
      obtain ⟨z, hz, _, hwf⟩ := DataW.trod_int Tryd.underlying5 (hV i hi).2
      simp only [List.cons.injEq, and_true] at hz
      simp only [Lit.wf, Bool.and_eq_true, decide_eq_true_eq] at hwf
      refine ⟨z, hz, ?_, ?_⟩
      · exact hwf.1
      · have := hwf.2
        rw [show IntKind.u8.max = 255 from rfl] at this
        omega
    have hlen : m < 2 ^ 48 := by
      cases hx
      simp only [Sized, DataW.weights, Tryd.underlying22, List.all_cons, Bool.and_eq_true, bytes5, reach_val, List.length_map, List.length_range] at hw
      have := of_decide_eq_true hw.1
      omega
    have hgets : ∀ i, i < m → V i = .int .u8 (getI (V i)) := by
      intro i hi
      obtain ⟨z, hz, _⟩ := hint i hi
      rw [hz]; rfl
    refine ⟨_, (List.range len).map fun i => getI (V i), .lsl false 0 (((List.range len).map fun i => getI (V i)).map (AV.int .u8)) len (some m), rfl, ⟨false, [], some m, by simp, fun c hc => by cases hc; simpa using hlc, by simp; omega, by simp⟩, ?_, rfl, ?_⟩
    · intro b hb
      simp only [List.mem_map, List.mem_range] at hb
      obtain ⟨i, hi, rfl⟩ := hb
      obtain ⟨z, hz, h0, h1⟩ := hint i (by omega)
      rw [hz]; exact ⟨h0, h1⟩
    · intro S hS
      simp only [Rd, Bool.false_eq_true, if_false]
      by_cases hm0 : m = 0
      · have : len = 0 := by omega
        subst hm0; subst this
        exact .inr ⟨a, rfl, rfl, rfl, fun m hm => by cases hm; rfl⟩
      · obtain ⟨hsp, hbl⟩ := cell_there (hV 0 (by omega)).1
        have h0 : a.add 0 = a := by simp [Addr.add]
        rw [h0] at hsp hbl
        refine .inl ⟨a.block, a.off, m, ?_, hS _ hbl, .mk fun i x hx => ?_, hlc, fun m hm => by cases hm; rfl⟩
        · cases a; simp only at hsp; subst hsp; rfl
        · simp only [List.getElem?_map, Option.map_eq_some_iff] at hx
          obtain ⟨z, ⟨j, hj, rfl⟩, rfl⟩ := hx
          obtain ⟨hi, rfl⟩ := List.getElem?_eq_some_iff.1 hj
          simp only [List.length_range] at hi
          simp only [List.getElem_range]
          refine ⟨rfl, V i, ?_, ?_⟩
          · rw [← add_eq hsp]; exact (hV i (by omega)).1
          · simp only [Rd]; exact hgets i (by omega)

theorem list5 {α : Type} {l : List α} (h : l.length = 5) : ∃ a b c d e, l = [a, b, c, d, e] := by
  match l, h with
  | [a, b, c, d, e], _ => exact ⟨a, b, c, d, e, rfl⟩

theorem tag_rd {n : Nat} {a b c : Value} {x : DataW H × List MemPlace} {held : Bool} (h : DataW.trod enc Tryd.prog W 0 (fun _ => true) held n 29 [a, b, c] = some x) :
    ∃ z k y, a = .int .u8 z ∧ b = .bool k ∧ c = .int .u32 y ∧ x.1 = .agg [.lit (.int .u8 z), .lit (.bool k), .lit (.int .u32 y)] ∧ 0 ≤ z ∧ z < 256 ∧ 0 ≤ y ∧ y < 2 ^ 32 := by
  obtain ⟨y0, y1, y2, m, hx, hl, h0, h1, h2⟩ := Deep.trod_struct3 Tryd.underlying29 h
  simp only [cells26, cells4, cells27, List.drop_succ_cons, List.drop_zero, List.take_succ_cons, List.take_zero] at h0 h1 h2
  obtain ⟨z, hz, e0, w0⟩ := DataW.trod_int Tryd.underlying26 h0
  obtain ⟨k, hk, e1⟩ := DataW.trod_bool Tryd.underlying4 h1
  obtain ⟨y, hy, e2, w2⟩ := DataW.trod_int Tryd.underlying27 h2
  simp only [List.cons.injEq, and_true] at hz hk hy
  simp only [Lit.wf, Bool.and_eq_true, decide_eq_true_eq] at w0 w2
  refine ⟨z, k, y, hz, hk, hy, by rw [hx, e0, e1, e2], w0.1, ?_, w2.1, ?_⟩
  · have := w0.2; rw [show IntKind.u8.max = 255 from rfl] at this; omega
  · have := w2.2; rw [show IntKind.u32.max = 4294967295 from rfl] at this; omega

theorem sized_agg {t : TypeId} {fs : Array Field} {parts : List (DataW H)} (ht : Tryd.prog.underlying t = some (.struct fs)) (h : Sized t (.agg parts)) : (DataW.weightsEach Tryd.prog (fs.toList.map (·.type)) parts).all (· ≤ reachBytes) = true := by
  simpa only [Sized, DataW.weights, ht] using h

theorem sized_all {e : TypeId} : ∀ {l : List (DataW H)}, (DataW.weightsAll Tryd.prog e l).all (· ≤ reachBytes) = true → ∀ (i : Nat) (d : DataW H), l[i]? = some d → Sized e d
  | [], _, i, d, hd => by simp at hd
  | x :: l, h, i, d, hd => by
    simp only [DataW.weightsAll, List.all_append, Bool.and_eq_true] at h
    cases i with
    | zero => simp at hd; subst hd; exact h.1
    | succ i => exact sized_all h.2 i d (by simpa using hd)

/-- An element. -/
theorem rd_elem : ∀ (n : Nat) (cs : List Value) (d : DataW H) (p : List MemPlace), DataW.trod enc Tryd.prog W 0 (fun _ => true) true n 32 cs = some (d, p) → Sized 32 d →
    ∃ e cells, ElA e cells ∧ (∀ a ∈ cells, a.one = true) ∧ ∀ S, Lies W S → RdL Tryd.prog W S noId cells cs := by
  intro n
  induction n using Nat.strongRecOn with
  | _ n ih =>
    intro cs d p h hw
    obtain ⟨xs, m, rfl, hx, hl, hlen, hf⟩ := DataW.trod_struct Tryd.underlying32 h
    obtain ⟨y0, y1, y2, rfl⟩ : ∃ y0 y1 y2, xs = [y0, y1, y2] := by
      match xs, hlen with
      | [y0, y1, y2], _ => exact ⟨y0, y1, y2, rfl⟩
    rw [cells32] at hl
    obtain ⟨v0, v1, v2, v3, v4, rfl⟩ := list5 hl
    have h0 : DataW.trod enc Tryd.prog W 0 (fun _ => true) true m 29 (List.take (Tryd.prog.cellsOf 29) [v0, v1, v2, v3, v4]) = some y0 := hf 0 _ rfl
    have h1 : DataW.trod enc Tryd.prog W 0 (fun _ => true) true m 22 (List.take (Tryd.prog.cellsOf 22) [v3, v4]) = some y1 := hf 1 _ rfl
    have h2 : DataW.trod enc Tryd.prog W 0 (fun _ => true) true m 30 (List.take (Tryd.prog.cellsOf 30) [v4]) = some y2 := hf 2 _ rfl
    rw [cells29] at h0
    rw [cells22] at h1
    rw [cells30] at h2
    simp only [List.take_succ_cons, List.take_zero] at h0 h1 h2
    obtain ⟨z, k, y, rfl, rfl, rfl, _, _⟩ := tag_rd h0
    simp only [Prod.mk.injEq] at hx
    obtain ⟨rfl, _⟩ := hx
    have hw' := sized_agg Tryd.underlying32 hw
    simp only [List.map_cons, List.map_nil, DataW.weightsEach, List.all_append, Bool.and_eq_true, List.append_nil] at hw'
    obtain ⟨vb, bs, ab, hvb, hsi, hbyt, hone, hrb⟩ := rd_bytes (d := y1.1) (p := y1.2) h1 hw'.2.1
    simp only [List.cons.injEq, and_true] at hvb
    subst hvb
    have hs : ∃ els ac, els.length < 2 ^ 48 ∧ (∃ nl cs2 cap, ac = .lsl nl 0 cs2 els.length cap ∧ capOk els.length cap ∧ (nl = true → els = []) ∧ ElsA els cs2) ∧ ∀ S, Lies W S → Rd Tryd.prog W S noId ac v4 := by
      have hw2 : Sized 30 y2.1 := hw'.2.2
      rcases DataW.trod_slice Tryd.underlying30 h2 with ⟨hv, _⟩ | ⟨a, len, cap, elems, rest, q, hq, hv, hy2, _, hlc, hcm, hel, he, hr, _⟩
      · simp only [List.cons.injEq, and_true] at hv
        subst hv
        exact ⟨[], .lsl true 0 [] 0 (some 0), by simp, ⟨true, [], some 0, rfl, fun c hc => by cases hc; exact Nat.le_refl _, by simp, by simp only [ElsA]⟩, fun S _ => by simp [Rd]⟩
      · simp only [List.cons.injEq, and_true] at hv
        subst hv
        have hy : y2.1 = .slice (elems.map (·.1)) (rest.map (·.1)) := by rw [hy2]
        rw [hy] at hw2
        simp only [Sized, DataW.weights, Tryd.underlying30, List.all_cons, List.all_append, Bool.and_eq_true, bytes32, reach_val, List.length_map] at hw2
        have hsz := of_decide_eq_true hw2.1
        have hr1 := (hr rfl).1
        rw [cells32] at he
        have hone : ∀ i, i < len → ∃ cs', W.cells? 0 (a.add (i * 5)) 5 = some cs' ∧ ∃ e cells, ElA e cells ∧ (∀ a ∈ cells, a.one = true) ∧ ∀ S, Lies W S → RdL Tryd.prog W S noId cells cs' := by
          intro i hi
          have := he i hi
          rw [List.getElem?_eq_getElem (by omega)] at this
          obtain ⟨cs', q1, q2⟩ := Option.bind_eq_some_iff.1 this
          refine ⟨cs', q1, ih q (by omega) cs' _ _ q2 (sized_all (l := elems.map (·.1)) hw2.2.1 i _ ?_)⟩
          rw [List.getElem?_map, List.getElem?_eq_getElem (by omega)]
          rfl
        have hsp : 0 < len → a.spot = none ∧ a.block < W.heap.size := by
          intro hl
          obtain ⟨cs', q1, _⟩ := hone 0 hl
          obtain ⟨_, q3, q4⟩ := World.cells?_some q1
          have q5 := q4 0 (by omega)
          rw [List.getElem?_eq_getElem (by omega)] at q5
          have := cell_there q5
          simpa [Addr.add] using this
        have hcap : 0 < cap → a.spot = none ∧ a.block < W.heap.size := by
          intro hl
          by_cases hl0 : 0 < len
          · exact hsp hl0
          · have := (hr rfl).2 0 (by omega)
            rw [List.getElem?_eq_getElem (by rw [hr1]; omega)] at this
            obtain ⟨cs', q1, _⟩ := Option.bind_eq_some_iff.1 this
            rw [cells32] at q1
            obtain ⟨_, q3, q4⟩ := World.cells?_some q1
            have q5 := q4 0 (by omega)
            rw [List.getElem?_eq_getElem (by omega)] at q5
            have := cell_there q5
            have e0 : len = 0 := by omega
            subst e0
            simpa [Addr.add] using this
        have key : ∀ k i, i + k = len → ∃ els cells, els.length = k ∧ ElsA els cells ∧ ∀ S, Lies W S → RdAt Tryd.prog W S noId cells a.block (a.off + i * 5) := by
          intro k
          induction k with
          | zero => intro i _; exact ⟨[], [], rfl, by simp only [ElsA], fun S _ => rdAt_nil⟩
          | succ k ihk =>
            intro i hik
            obtain ⟨els, cells, g1, g2, g3⟩ := ihk (i + 1) (by omega)
            obtain ⟨cs', q1, e, cl, q2, q3, q4⟩ := hone i (by omega)
            obtain ⟨_, q5, q6⟩ := World.cells?_some q1
            refine ⟨e :: els, cl ++ cells, by simp [g1], ?_, fun S hS => ?_⟩
            · simp only [ElsA]; exact ⟨cl, cells, rfl, q2, g2⟩
            · have hcl := q2.len
              refine RdAt.append (.of_list (q4 S hS) q3 fun j v hj => ?_) ?_
              · have hj5 : j < 5 := by rw [← q5]; exact (List.getElem?_eq_some_iff.1 hj).1
                have q7 := q6 j hj5
                rw [hj] at q7
                rw [add_eq (hsp (by omega)).1, add_eq rfl] at q7
                exact q7
              · rw [hcl, show a.off + i * 5 + 5 = a.off + (i + 1) * 5 by omega]
                exact g3 S hS
        by_cases hc0 : cap = 0
        · have hl0 : len = 0 := by omega
          subst hc0; subst hl0
          exact ⟨[], .lsl false 0 [] 0 (some 0), by simp, ⟨false, [], some 0, rfl, fun c hc => by cases hc; exact Nat.le_refl _, by simp, by simp only [ElsA]⟩, fun S hS => by
            simp only [Rd, Bool.false_eq_true, if_false]
            exact .inr ⟨a, rfl, trivial, trivial, fun m hm => by cases hm; rfl⟩⟩
        obtain ⟨els, cells, g1, g2, g3⟩ := key len 0 (by omega)
        refine ⟨els, .lsl false 0 cells len (some cap), by omega, ⟨false, cells, some cap, by rw [g1], fun c hc => by cases hc; omega, by simp, g2⟩, fun S hS => ?_⟩
        simp only [Rd, Bool.false_eq_true, if_false]
        obtain ⟨s1, s2⟩ := hcap (by omega)
        refine .inl ⟨a.block, a.off, cap, ?_, hS _ s2, by simpa using g3 _ hS.inner, hlc, fun m hm => by cases hm; rfl⟩
        cases a; simp only at s1; subst s1; rfl
    obtain ⟨els, ac, e1, ⟨nl, cs2, cap, rfl, e2, e3, e4⟩, e5⟩ := hs
    refine ⟨.mk z k y bs els, [.int .u8 z, .bool k, .int .u32 y, ab, .lsl nl 0 cs2 els.length cap], ?_, ?_, fun S hS => ?_⟩
    · simp only [ElA]
      exact ⟨ab, nl, cs2, cap, rfl, hsi, e2, e1, e3, e4⟩
    · intro a ha
      simp only [List.mem_cons, List.not_mem_nil, or_false] at ha
      rcases ha with rfl | rfl | rfl | rfl | rfl <;> first | rfl | exact hone
    · exact .cons rd_int (.cons rd_bool (.cons rd_int (.cons (hrb S hS) (.one (e5 S hS)))))
end
end Go.Vid
