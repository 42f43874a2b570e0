/-
From a summary of a law's function to what its row asks: the call gives true, and all that was there before is unchanged.
-/
import Derived.Test.YtnjlocjikfbgdaaDoorXE
set_option linter.all false
namespace Go.Vid
open Go.Proofs Go.ChangeShapes Go.WideShapes Go.ChangeAt Go.RowKit
set_option maxRecDepth 100000

theorem var_rd {W : World} {nm : String} {g : Nat} {cs : Array Value} {ls : List AV} (hg : Tryd.prog.globalNamed nm = some g) (hv : W.var? Tryd.prog nm = some cs) (hr : ∀ S : Nat → Nat → Prop, RdL Tryd.prog W S noId ls cs.toList) (ho : ∀ a ∈ ls, a.one = true) :
    ∀ S, Lies W S → S 0 g ∧ RdAt Tryd.prog W (fun j c => j ≤ 0 ∧ S j c) noId ls g 0 := by
  intro S hS
  simp only [World.var?, hg, Option.bind_some] at hv
  split at hv <;> cases hv
  rename_i el fz hb
  refine ⟨hS g (Array.getElem?_eq_some_iff.1 hb).1, .of_list (hr _) ho fun i v hi => ?_⟩
  simp only [World.cell?, hb, Option.isSome_none, Bool.false_eq_true, if_false, Nat.zero_add]
  simpa using hi

theorem cells93 : Tryd.prog.cellsOf 93 = 5 := by kernel_rfl
theorem cells101 : Tryd.prog.cellsOf 101 = 65 := by kernel_rfl

theorem list3 {α : Type} {l : List α} (h : l.length = 3) : ∃ a b c, l = [a, b, c] := by
  match l, h with
  | [a, b, c], _ => exact ⟨a, b, c, rfl⟩

theorem field_rd {H : Type} {enc : TypeId × Value → H} {W : World} {n : Nat} {cs : List Value} {x : DataW H × List MemPlace} {held : Bool} (h : DataW.trod enc Tryd.prog W 0 (fun _ => true) held n 93 cs = some x) :
    ∃ z k y a o, cs = [.int .u8 z, .bool k, .int .u32 y, .bool a, .bool o] ∧ x.1 = .agg [.agg [.lit (.int .u8 z), .lit (.bool k), .lit (.int .u32 y)], .lit (.bool a), .lit (.bool o)] := by
  obtain ⟨y0, y1, y2, m, hx, hl, h0, h1, h2⟩ := Deep.trod_struct3 Tryd.underlying93 h
  rw [cells93] at hl
  obtain ⟨v0, v1, v2, v3, v4, rfl⟩ := list5 hl
  simp only [cells29, cells4, List.drop_succ_cons, List.drop_zero, List.take_succ_cons, List.take_zero] at h0 h1 h2
  obtain ⟨z, k, y, rfl, rfl, rfl, e0, _⟩ := tag_rd h0
  obtain ⟨a, ha, e1⟩ := DataW.trod_bool Tryd.underlying4 h1
  obtain ⟨o, ho, e2⟩ := DataW.trod_bool Tryd.underlying4 h2
  simp only [List.cons.injEq, and_true] at ha ho
  subst ha; subst ho
  exact ⟨z, k, y, a, o, rfl, by rw [hx, e0, e1, e2]⟩

theorem split5 {α : Type} : ∀ (n : Nat) (l : List α) (f : Nat → List α), l.length = n * 5 → (∀ i, i < n → (l.drop (i * 5)).take 5 = f i) → l = (List.range n).flatMap f
  | 0, l, f, hl, _ => by
    have : l = [] := List.eq_nil_of_length_eq_zero (by omega)
    simp [this]
  | n + 1, l, f, hl, h => by
    have h0 := h 0 (by omega)
    have ih := split5 n (l.drop 5) (fun i => f (i + 1)) (by rw [List.length_drop]; omega) fun i hi => by
      rw [List.drop_drop, ← h (i + 1) (by omega)]
      congr 2
      omega
    rw [List.range_succ_eq_map, List.flatMap_cons, List.flatMap_map, ← h0]
    simp only [Nat.zero_mul, List.drop_zero]
    conv => lhs; rw [← List.take_append_drop 5 l]
    rw [ih]

def fldV (c : Int × Bool × Int × Bool × Bool) : List Value := [.int .u8 c.1, .bool c.2.1, .int .u32 c.2.2.1, .bool c.2.2.2.1, .bool c.2.2.2.2]
def fldA (c : Int × Bool × Int × Bool × Bool) : List AV := [.int .u8 c.1, .bool c.2.1, .int .u32 c.2.2.1, .bool c.2.2.2.1, .bool c.2.2.2.2]
def fldD {H : Type} (c : Int × Bool × Int × Bool × Bool) : DataW H := .agg [.agg [.lit (.int .u8 c.1), .lit (.bool c.2.1), .lit (.int .u32 c.2.2.1)], .lit (.bool c.2.2.2.1), .lit (.bool c.2.2.2.2)]

def tblL : List (Int × Bool × Int × Bool × Bool) := [(0, true, 16, false, false), (2, true, 0, false, true), (0, false, 2, false, false), (0, true, 16, false, false), (0, true, 16, false, false), (0, true, 16, false, false), (0, true, 16, false, false), (0, true, 16, false, false), (2, false, 1, false, true), (2, false, 2, false, true), (2, true, 3, false, true), (0, true, 16, false, false), (0, false, 3, false, false)]
theorem tblL_D {H : Type} : (_root_.Go.Proofs.YtnjlocjikfbgdaaDoor.Rows.laid_vidimus_skeletons_table : DataW H) = .agg (tblL.map fldD) := rfl
theorem tblL_A : gTable = tblL.flatMap fldA := rfl

theorem fld_rdL {W : World} {S : Nat → Nat → Prop} : ∀ l : List (Int × Bool × Int × Bool × Bool), RdL Tryd.prog W S noId (l.flatMap fldA) (l.flatMap fldV)
  | [] => .nil
  | c :: l => by
    simp only [List.flatMap_cons, fldA, fldV, List.cons_append, List.nil_append]
    exact .cons rd_int (.cons rd_bool (.cons rd_int (.cons rd_bool (.cons rd_bool (fld_rdL l)))))

theorem fld_one : ∀ (l : List (Int × Bool × Int × Bool × Bool)), ∀ a ∈ l.flatMap fldA, a.one = true := by
  intro l a ha
  simp only [List.mem_flatMap, fldA, List.mem_cons, List.not_mem_nil, or_false] at ha
  obtain ⟨c, _, h⟩ := ha
  rcases h with rfl | rfl | rfl | rfl | rfl <;> rfl

theorem table_rd {W : World} {n : Nat} {cs : List Value} {p : List MemPlace} {held : Bool} (h : DataW.trod (fun _ => ()) Tryd.prog W 0 (fun _ => true) held n 101 cs = some (_root_.Go.Proofs.YtnjlocjikfbgdaaDoor.Rows.laid_vidimus_skeletons_table, p)) : cs = tblL.flatMap fldV := by
  rw [tblL_D] at h
  obtain ⟨xs, m, _, hx, hl, hlen, hi⟩ := DataW.trod_array Tryd.underlying101 h
  rw [cells101] at hl
  rw [cells93] at hi
  simp only [Prod.mk.injEq, DataW.agg.injEq] at hx
  have hxs : ∀ i, i < 13 → (cs.drop (i * 5)).take 5 = (tblL[i]?.map fldV).getD [] := by
    intro i hi13
    have h1 := hi i hi13
    rw [List.getElem?_eq_getElem (by omega)] at h1
    obtain ⟨z, k, y, a, o, hcs, hd⟩ := field_rd h1
    have h2 : (xs[i]'(by omega)).1 = fldD (tblL[i]'hi13) := by
      have h3 : (xs.map (·.1))[i]? = (tblL.map fldD)[i]? := by rw [hx.1]
      rw [List.getElem?_map, List.getElem?_map, List.getElem?_eq_getElem (by omega), List.getElem?_eq_getElem (show i < tblL.length from hi13)] at h3
      exact Option.some.inj h3
    rw [hd] at h2
    rw [hcs, List.getElem?_eq_getElem (show i < tblL.length from hi13)]
    simp only [fldD, DataW.agg.injEq, List.cons.injEq, DataW.lit.injEq, Lit.int.injEq, Lit.bool.injEq, true_and, and_true] at h2
    obtain ⟨⟨rfl, rfl, rfl⟩, rfl, rfl⟩ := h2
    rfl
  rw [split5 13 cs (fun i => (tblL[i]?.map fldV).getD []) hl hxs]
  rfl

theorem tag29_rd {W : World} {n : Nat} {cs : List Value} {p : List MemPlace} {held : Bool} {z : Int} {k : Bool} {y : Int} (h : DataW.trod (fun _ => ()) Tryd.prog W 0 (fun _ => true) held n 29 cs = some (.agg [.lit (.int .u8 z), .lit (.bool k), .lit (.int .u32 y)], p)) :
    cs = [.int .u8 z, .bool k, .int .u32 y] := by
  have hl := (Deep.trod_struct3 Tryd.underlying29 h)
  obtain ⟨_, _, _, _, _, hl, _⟩ := hl
  rw [cells29] at hl
  obtain ⟨a, b, c, rfl⟩ := list3 hl
  obtain ⟨z', k', y', rfl, rfl, rfl, e, _⟩ := tag_rd h
  simp only [DataW.agg.injEq, List.cons.injEq, DataW.lit.injEq, Lit.int.injEq, Lit.bool.injEq, true_and, and_true] at e
  obtain ⟨rfl, rfl, rfl⟩ := e
  rfl

/-- The program's variables, as the row lays them. -/
theorem glob_rd {W : World} (h : laidMetH Tryd.prog [("vidimus/skeletons.sequence", _root_.Go.Proofs.YtnjlocjikfbgdaaDoor.Rows.laid_vidimus_skeletons_sequence), ("vidimus/skeletons.integer", _root_.Go.Proofs.YtnjlocjikfbgdaaDoor.Rows.laid_vidimus_skeletons_integer), ("vidimus/skeletons.table", _root_.Go.Proofs.YtnjlocjikfbgdaaDoor.Rows.laid_vidimus_skeletons_table)] W) :
    ∀ S, Lies W S → ∀ n cs, glob n = some cs → S 0 n ∧ RdAt Tryd.prog W (fun j c => j ≤ 0 ∧ S j c) noId cs n 0 := by
  intro S hS n cs hn
  have h' := (laidMetH_iff.1 h).1
  rw [show (List.filter (fun x => x.2.handleName?.isNone) [("vidimus/skeletons.sequence", _root_.Go.Proofs.YtnjlocjikfbgdaaDoor.Rows.laid_vidimus_skeletons_sequence), ("vidimus/skeletons.integer", _root_.Go.Proofs.YtnjlocjikfbgdaaDoor.Rows.laid_vidimus_skeletons_integer), ("vidimus/skeletons.table", (_root_.Go.Proofs.YtnjlocjikfbgdaaDoor.Rows.laid_vidimus_skeletons_table : DataW Unit))]) = _ from rfl] at h'
  obtain ⟨ps, ⟨g1, t1, c1, n1, p1, q1, a1, b1, d1, e1, ⟨g2, t2, c2, n2, p2, q2, a2, b2, d2, e2, ⟨g3, t3, c3, n3, p3, q3, a3, b3, d3, e3, _, _⟩, _⟩, _⟩, _, _⟩ := h'
  have x1 : Tryd.prog.globalNamed "vidimus/skeletons.sequence" = some 2 := by kernel_rfl
  have x2 : Tryd.prog.globalNamed "vidimus/skeletons.integer" = some 3 := by kernel_rfl
  have x3 : Tryd.prog.globalNamed "vidimus/skeletons.table" = some 1 := by kernel_rfl
  have y1 : (Tryd.prog.globals[2]?).map (·.type) = some 29 := by kernel_rfl
  have y2 : (Tryd.prog.globals[3]?).map (·.type) = some 29 := by kernel_rfl
  have y3 : (Tryd.prog.globals[1]?).map (·.type) = some 101 := by kernel_rfl
  rw [x1] at a1; cases a1
  rw [x2] at a2; cases a2
  rw [x3] at a3; cases a3
  rw [y1] at b1; cases b1
  rw [y2] at b2; cases b2
  rw [y3] at b3; cases b3
  have z1 := tag29_rd e1
  have z2 := tag29_rd e2
  have z3 := table_rd e3
  match n, hn with
  | 1, hn =>
    cases hn
    refine var_rd x3 d3 (fun S => ?_) ?_ S hS
    · rw [z3, tblL_A]; exact fld_rdL _
    · rw [tblL_A]; exact fld_one _
  | 2, hn =>
    cases hn
    refine var_rd x1 d1 (fun S => ?_) ?_ S hS
    · rw [z1]; exact .cons rd_int (.cons rd_bool (.one rd_int))
    · intro a ha; simp only [gSeq, List.mem_cons, List.not_mem_nil, or_false] at ha; rcases ha with rfl | rfl | rfl <;> rfl
  | 3, hn =>
    cases hn
    refine var_rd x2 d2 (fun S => ?_) ?_ S hS
    · rw [z2]; exact .cons rd_int (.cons rd_bool (.one rd_int))
    · intro a ha; simp only [gInt, List.mem_cons, List.not_mem_nil, or_false] at ha; rcases ha with rfl | rfl | rfl <;> rfl

/-- All that was there before is unchanged: the row's second half. -/
theorem post_old {H : Type} {enc : TypeId × Value → H} {f : Func} {s : ChangeSpec} {apart fresh handsOn again : Bool} {W W' : World} {args : Array Value} {ds : List (DataW H)} {before : List MemPlace} (hv : s.vars = []) (hr : f.resultTypes = #[4])
    (hfn : s.fn H ds = { results := [.lit (.bool true)], args := ds }) (hpar : ∀ t ∈ f.params.toList, t < Tryd.prog.types.size ∧ Tryd.prog.readableRec t = true)
    (hW : DataW.Whole enc Tryd.prog f.params.toList s.vars apart W args.toList ds [] before) (hos : W'.os = W.os) (hout : W'.output = W.output) (hsz : W.heap.size ≤ W'.heap.size) (hh : ∀ b, b < W.heap.size → W'.heap[b]? = W.heap[b]?) :
    s.post enc Tryd.prog f apart fresh handsOn again W args (.bool true) W' := by
  have hlt := hW.lt
  obtain ⟨p, q, hA, hV, hps, hz, hnd⟩ := hW
  rw [hv] at hV
  have hq := (trodVars_none hV).2
  subst hq
  rw [List.append_nil] at hps
  subst hps
  have hsame : ∀ x ∈ before, W.sameAt W' x := by
    intro x hx
    have hb := hh x.block (hlt x hx)
    cases x with
    | cell b off => exact cell?_of_heap hb
    | map b => exact hb
  have hstay : ∀ (ts : List TypeId) (vs : List Value) (ds : List (DataW H)) (ps : List MemPlace) (sp : Nat → Bool), (∀ t ∈ ts, t < Tryd.prog.types.size ∧ Tryd.prog.readableRec t = true) → (∀ x ∈ ps, W.sameAt W' x) → (∀ x ∈ ps, sp x.block = true) →
      DataW.TrodAll enc Tryd.prog W 0 (fun _ => true) true ts vs ds ps → DataW.TrodAll enc Tryd.prog W' 0 sp true ts vs ds ps := by
    intro ts
    induction ts with
    | nil => intro vs ds ps sp _ _ _ h; obtain ⟨rfl, rfl, rfl⟩ := trodAll_nil h; rfl
    | cons t ts ih =>
      intro vs ds ps sp h1 h2 h3 h
      obtain ⟨v, vs', d, ds', p, q, rfl, rfl, rfl, h4, h5⟩ := trodAll_cons h
      refine ⟨p, q, ?_, ih vs' ds' q sp (fun t ht => h1 t (by simp [ht])) (fun x hx => h2 x (by simp [hx])) (fun x hx => h3 x (by simp [hx])) h5, rfl⟩
      exact WideElems.Trod_stays (by kernel_rfl) (h1 t (by simp)).2 (h1 t (by simp)).1 h4 (fun x hx => h2 x (by simp [hx])) (fun x hx => h3 x (by simp [hx]))
  have hres : ∀ (b : Nat) (sp : Nat → Bool) (hd : Bool), DataW.TrodAll enc Tryd.prog W' b sp hd f.resultTypes.toList ((Value.bool true).resultList f.resultTypes.size) [.lit (.bool true)] [] := by
    intro b sp hd
    rw [hr]
    exact ⟨[], [], shut_bool Tryd.underlying4 true, rfl, rfl⟩
  refine ⟨ds, [], before, [], before, [], ⟨before, [], hA, by rw [hv]; rfl, by simp, hz, hnd⟩, ?_, ?_, ?_, ?_, ?_⟩
  · rw [List.append_nil, hfn]; exact hres _ _ _
  · rw [List.append_nil, hfn]
    exact hstay _ _ _ _ _ hpar hsame (fun x hx => by simpa using hlt x hx) hA
  · rw [hv, List.append_nil, hfn]; rfl
  · refine ⟨hos, hout, fun i hi => ?_⟩
    rw [hh i hi]
    cases W.heap[i]? with
    | none => rfl
    | some o => cases o with
      | cells c t fz => exact ⟨rfl, rfl, rfl, fun _ _ => rfl⟩
      | map es k => exact .inr ⟨rfl, rfl⟩
      | _ => rfl
  · intro _
    refine ⟨ok_one hr rfl (okWide_bool_mk Tryd.underlying4 _), .lit (.bool true) :: ds, [], before, ⟨before, [], ?_, by rw [hv]; rfl, by simp, ?_, hnd⟩, fun x hx _ => hx⟩
    · rw [hr]
      exact ⟨[], before, shut_bool Tryd.underlying4 true, hstay _ _ _ _ _ hpar hsame (fun _ _ => rfl) hA, rfl⟩
    · intro b off hx
      have := hz b off hx
      have hb := hh b (hlt _ hx)
      simpa only [World.frozen?, hb] using this

/-- A law of one argument, by its function's summary. -/
theorem law_call {f : FuncId} {args : List AV} {W : World} {vs : List Value} (hg : ∀ S, Lies W S → ∀ n cs, glob n = some cs → S 0 n ∧ RdAt Tryd.prog W (fun j c => j ≤ 0 ∧ S j c) noId cs n 0) (hr : ∀ S, Lies W S → RdL Tryd.prog W S noId args vs) (h : Sm f args (.bool true)) :
    Calls Tryd.prog f ⟨vs⟩ W fun e W' => e = .returned (.bool true) ∧ W'.os = W.os ∧ W'.output = W.output ∧ W.heap.size ≤ W'.heap.size ∧ ∀ b, b < W.heap.size → W'.heap[b]? = W.heap[b]? := by
  let C : Ctx := ⟨W, fun k b => k = 0 ∧ b < W.heap.size, noId⟩
  have hL : Lies W C.S := fun b hb => ⟨rfl, hb⟩
  have hI : Inv Tryd.prog glob C (⟨[], 0⟩ : St).g 0 := by
    refine ⟨fun k b h => h.2, fun k b h => by rw [h.1]; exact Nat.le_refl _, fun id o ho => by simp [St.g] at ho, fun i j b oi oj hi => by simp [St.g] at hi, fun n cs hn => hg _ hL n cs hn⟩
  refine (h C vs hI (fun _ _ => rfl) (hr _ hL)).mono fun e w ⟨C', hw, hX, _, _, u, he, hu⟩ => ?_
  subst hw
  simp only [Rd] at hu
  subst hu
  exact ⟨he, hX.os, hX.output, hX.size, fun b hb => hX.frm b hb fun _ h => by cases h⟩

/-- A variable's block with other cells. -/
def layC (cs : Array Value) : Obj → Obj
  | .cells _ t frozen => .cells cs t frozen
  | o => o
end Go.Vid
