/-
The plain data of a certificate, as a row reads it.
-/
import Derived.Test.YtnjlocjikfbgdaaDoorXF
import Derived.Test.YtnjlocjikfbgdaaDoorXP
set_option linter.all false
namespace Go.Vid
open Go.Proofs
set_option maxRecDepth 100000
/-! the plain data of a certificate, as a row reads it -/
section
variable {H : Type} {enc : TypeId × Value → H} {W : World}

theorem cells25 : Tryd.prog.cellsOf 25 = 14 := by kernel_rfl
theorem cells23 : Tryd.prog.cellsOf 23 = 13 := by kernel_rfl

theorem rd_codes {m : Nat} : ∀ (l : List Value) (xs : List (DataW H × List MemPlace)), xs.length = l.length → (∀ (i : Nat) (h : i < l.length), DataW.trod enc Tryd.prog W 0 (fun _ => true) true m 22 [l[i]] = xs[i]?) → (∀ x ∈ xs, Sized 22 x.1) →
    ∃ codes sl, codes.length = l.length ∧ SIL codes sl ∧ (∀ c ∈ codes, Byt c) ∧ (∀ a ∈ sl, a.one = true) ∧ ∀ S, Lies W S → RdL Tryd.prog W S noId sl l
  | [], _, _, _, _ => ⟨[], [], rfl, trivial, by simp, by simp, fun _ _ => .nil⟩
  | v :: l, xs, hl, h, hs => by
    match xs, hl with
    | x :: xs, hl =>
      obtain ⟨codes, sl, q1, q2, q3, q4, q5⟩ := rd_codes l xs (by simpa using hl) (fun i hi => by
        have := h (i + 1) (by simpa using hi)
        simpa using this) (fun x hx => hs x (by simp [hx]))
      have h0 := h 0 (by simp)
      simp only [List.getElem_cons_zero, List.getElem?_cons_zero] at h0
      obtain ⟨u, bs, a, hu, hsi, hbyt, hone, hr⟩ := rd_bytes (d := x.1) (p := x.2) h0 (hs x (by simp))
      simp only [List.cons.injEq, and_true] at hu
      subst hu
      exact ⟨bs :: codes, a :: sl, by simp [q1], ⟨hsi, q2⟩, fun c hc => by
        rcases List.mem_cons.1 hc with rfl | hc
        · exact hbyt
        · exact q3 c hc, fun b hb => by
        rcases List.mem_cons.1 hb with rfl | hb
        · exact hone
        · exact q4 b hb, fun S hS => .cons (hr S hS) (q5 S hS)⟩

theorem rd_K {n : Nat} {cs : List Value} {d : DataW H} {p : List MemPlace} (h : DataW.trod enc Tryd.prog W 0 (fun _ => true) true n 25 cs = some (d, p)) (hw : Sized 25 d) :
    ∃ w codes cells, KA w codes cells ∧ 0 ≤ w ∧ w < 256 ∧ (∀ c ∈ codes, Byt c) ∧ ∀ S, Lies W S → RdL Tryd.prog W S noId cells cs := by
  obtain ⟨xs, m, rfl, hx, hl, hlen, hf⟩ := DataW.trod_struct Tryd.underlying25 h
  obtain ⟨y0, y1, rfl⟩ : ∃ y0 y1, xs = [y0, y1] := by
    match xs, hlen with
    | [y0, y1], _ => exact ⟨y0, y1, rfl⟩
  rw [cells25] at hl
  obtain ⟨v0, l, rfl⟩ : ∃ v0 l, cs = v0 :: l := by
    match cs, hl with
    | v0 :: l, _ => exact ⟨v0, l, rfl⟩
  have hl13 : l.length = 13 := by simpa using hl
  have h0 : DataW.trod enc Tryd.prog W 0 (fun _ => true) true m 5 (List.take (Tryd.prog.cellsOf 5) (v0 :: l)) = some y0 := hf 0 _ rfl
  have h1 : DataW.trod enc Tryd.prog W 0 (fun _ => true) true m 23 (List.take (Tryd.prog.cellsOf 23) l) = some y1 := hf 1 _ rfl
  rw [cells5] at h0
  rw [cells23, List.take_of_length_le (by omega)] at h1
  simp only [List.take_succ_cons, List.take_zero] at h0
  obtain ⟨z, hz, _, hwf⟩ := DataW.trod_int Tryd.underlying5 h0
  simp only [List.cons.injEq, and_true] at hz
  subst hz
  simp only [Lit.wf, Bool.and_eq_true, decide_eq_true_eq] at hwf
  obtain ⟨ys, m2, rfl, hy, hl2, hylen, hi⟩ := DataW.trod_array Tryd.underlying23 h1
  simp only [Prod.mk.injEq] at hx
  obtain ⟨rfl, _⟩ := hx
  have hw' := sized_agg Tryd.underlying25 hw
  simp only [List.map_cons, List.map_nil, DataW.weightsEach, List.all_append, Bool.and_eq_true, List.append_nil] at hw'
  have hw2 : Sized 23 y1.1 := hw'.2
  rw [hy] at hw2
  simp only [Sized, DataW.weights, Tryd.underlying23] at hw2
  obtain ⟨codes, sl, q1, q2, q3, q4, q5⟩ := rd_codes (enc := enc) (m := m2) l ys (by omega) (fun i hi' => by
    have := hi i (by omega)
    rw [cells22, Nat.mul_one, show (l.drop i).take 1 = [l[i]] by rw [List.drop_eq_getElem_cons hi']; rfl] at this
    exact this) (fun x hx => by
    obtain ⟨i, hi', rfl⟩ := List.getElem_of_mem hx
    exact sized_all (l := ys.map (·.1)) hw2 i _ (by rw [List.getElem?_map, List.getElem?_eq_getElem hi']; rfl))
  refine ⟨z, codes, .int .u8 z :: sl, ⟨sl, rfl, by omega, q2⟩, hwf.1, ?_, q3, fun S hS => .cons rd_int (q5 S hS)⟩
  have := hwf.2
  rw [show IntKind.u8.max = 255 from rfl] at this
  omega
end

end Go.Vid
