/-
THE EXAMPLES OF THE CHAPTER (lives): the function gives true.
-/
import Derived.Test.YtnjlocjikfbgdaaDoorWU
import Derived.Test.YtnjlocjikfbgdaaDoorXA
import Derived.Test.YtnjlocjikfbgdaaDoorXB
import Derived.Test.YtnjlocjikfbgdaaDoorXC
namespace Go.Vid
open Go.Proofs
set_option maxRecDepth 100000
set_option linter.all false
section
open AExit AOut AV IntKind
theorem vc14a (K : AOut → Prop) : (dataN Tryd.prog env2
  [(14,
      {
        calls :=
          [(5, [(1, Sh.one (AOut.ret (tup [agg [int i64 1, lsl false 0 [int i64 0] 1 (some 1), nilS, lsl false 0 [int i64 0, int i64 0] 2 (some 2), lsl false 0 [int i64 0, int i64 1] 2 (some 2), lsl false 0 [int i64 0, int i64 2] 2 (some 2), lsl false 0 [int i64 0, int i64 3] 2 (some 2), lsl false 0 [int i64 0, int i64 4] 2 (some 2), lsl false 0 [int i64 0, int i64 5] 2 (some 2), nilS, nilS, nilS, lsl false 0 [int i64 1] 1 (some 1), lsl false 0 [int i64 2] 1 (some 1)], agg [nilS, int i64 0]]), ⟨[], 0⟩))]),
            (8,
              [(1,
                  Sh.one
                    (AOut.ret (tup [agg skel0, agg [lsl false 0 [int i64 0, int i64 6] 2 (some 2), int i64 16]]),
                      {
                        objs :=
                          [some (AObj.cells [int u8 0, AV.bool true, int u32 16, nilS, rsl 1 0 7 none, int u8 0, AV.bool true, int u32 16, nilS, nilS, int u8 0, AV.bool false, int u32 3, lsl false 0 [int u8 0] 1 none, nilS] 32 false),
                            some
                              (AObj.cells
                                (let y :=
                                  let y :=
                                    let y := [int u8 2, AV.bool true, int u32 3, nilS, rsl 2 0 1 (some 1)];
                                    AV.bool true :: int u32 16 :: nilS :: nilS :: y;
                                  let y := AV.bool true :: int u32 16 :: nilS :: nilS :: int u8 0 :: y;
                                  int u32 16 :: nilS :: nilS :: int u8 0 :: y;
                                let y :=
                                  let y := int u32 16 :: nilS :: nilS :: int u8 0 :: AV.bool true :: y;
                                  nilS :: nilS :: int u8 0 :: AV.bool true :: y;
                                let y := nilS :: int u8 0 :: AV.bool true :: int u32 16 :: y;
                                int u8 0 :: AV.bool false :: int u32 2 :: lsl false 0 [int u8 1] 1 none :: y)
                                32 true),
                            some (AObj.cells [int u8 0, AV.bool true, int u32 16, nilS, nilS] 32 false)],
                        dep := 0 }))]),
            (11,
              [(1,
                  Sh.one
                    (AOut.ret (tup [agg skel0, agg [lsl false 0 [int i64 0, int i64 0, int i64 0] 3 (some 3), int i64 11]]),
                      {
                        objs :=
                          [some (AObj.cells [int u8 0, AV.bool true, int u32 16, nilS, rsl 1 0 7 none, int u8 0, AV.bool true, int u32 16, nilS, nilS, int u8 0, AV.bool false, int u32 3, lsl false 0 [int u8 0] 1 none, nilS] 32 false),
                            some
                              (AObj.cells
                                (let y :=
                                  let y :=
                                    let y := [int u8 0, AV.bool true, int u32 16, nilS, nilS];
                                    AV.bool true :: int u32 16 :: nilS :: nilS :: y;
                                  let y := AV.bool true :: int u32 16 :: nilS :: nilS :: int u8 0 :: y;
                                  int u32 16 :: nilS :: nilS :: int u8 0 :: y;
                                let y :=
                                  let y := int u32 16 :: nilS :: nilS :: int u8 0 :: AV.bool true :: y;
                                  lsl false 0 [int u8 1] 1 none :: nilS :: int u8 0 :: AV.bool true :: y;
                                let y := rsl 2 0 1 (some 1) :: int u8 0 :: AV.bool false :: int u32 2 :: y;
                                int u8 2 :: AV.bool true :: int u32 0 :: nilS :: y)
                                32 true),
                            some (AObj.cells [int u8 0, AV.bool false, int u32 2, rsl 3 0 1 (some 1), nilS] 32 false), some (AObj.cells [int u8 0] 5 false)],
                        dep := 0 }))]),
            (13,
              [(1,
                  Sh.one
                    (AOut.ret (tup [agg skel0, agg [lsl false 0 [int i64 0, int i64 0, int i64 0] 3 (some 3), int i64 16]]),
                      {
                        objs :=
                          [some (AObj.cells [int u8 0, AV.bool true, int u32 16, nilS, rsl 1 0 7 none, int u8 0, AV.bool true, int u32 16, nilS, nilS, int u8 0, AV.bool false, int u32 3, lsl false 0 [int u8 0] 1 none, nilS] 32 false),
                            some
                              (AObj.cells
                                (let y :=
                                  let y :=
                                    let y := [int u8 0, AV.bool true, int u32 16, nilS, nilS];
                                    AV.bool true :: int u32 16 :: nilS :: nilS :: y;
                                  let y := AV.bool true :: int u32 16 :: nilS :: nilS :: int u8 0 :: y;
                                  int u32 16 :: nilS :: nilS :: int u8 0 :: y;
                                let y :=
                                  let y := int u32 16 :: nilS :: nilS :: int u8 0 :: AV.bool true :: y;
                                  lsl false 0 [int u8 1] 1 none :: nilS :: int u8 0 :: AV.bool true :: y;
                                let y := rsl 2 0 1 (some 1) :: int u8 0 :: AV.bool false :: int u32 2 :: y;
                                int u8 2 :: AV.bool true :: int u32 0 :: nilS :: y)
                                32 true),
                            some (AObj.cells [int u8 0, AV.bool false, int u32 2, rsl 3 0 1 (some 1), nilS] 32 false), some (AObj.cells [int u8 3] 5 false)],
                        dep := 0 }))])],
        shs := [(12, Sh.one (AOut.ret (tup [lsl false 0 [int i64 2, int i64 15, int i64 0, int i64 0, int i64 4, int i64 3, int i64 7, int i64 2, int i64 9, int i64 2, int i64 11, int i64 2, int i64 13, int i64 2, int i64 15, int i64 2, int i64 0, int i64 0, int i64 0, int i64 0, int i64 0, int i64 0, int i64 17, int i64 2, int i64 19, int i64 3] 13 (some 13), int i64 0, int i64 0]), ⟨[], 0⟩)), (35, Sh.one (AOut.ret (tup [agg [int u8 0, AV.bool true, int u32 16, nilS, lsl false 0 [int u8 0, AV.bool true, int u32 16, nilS, lsl false 0 [int u8 0, AV.bool false, int u32 2, lsl false 0 [int u8 1] 1 none, nilS, int u8 0, AV.bool true, int u32 16, nilS, nilS, int u8 0, AV.bool true, int u32 16, nilS, nilS, int u8 0, AV.bool true, int u32 16, nilS, nilS, int u8 0, AV.bool true, int u32 16, nilS, nilS, int u8 0, AV.bool true, int u32 16, nilS, nilS] 6 none, int u8 0, AV.bool true, int u32 16, nilS, nilS, int u8 0, AV.bool false, int u32 3, lsl false 0 [int u8 0] 1 none, nilS] 3 none], int i64 0, int i64 0]), ⟨[], 0⟩))] }),
    (85, { loops := [(0, LoopS.unroll 12)], inl := true }), (43, { loops := [(1, LoopS.unroll 12)], inl := true }), (42, { loops := [(0, LoopS.unroll 5)], inl := true }), (45, { loops := [(3, LoopS.unroll 3)], inl := true }), (60, { loops := [(1, LoopS.unroll 9)], inl := true }), (22, { loops := [(0, LoopS.unroll 5)], inl := true }), (28, { inl := true }), (37, { inl := true }), (58, { inl := true }), (75, { inl := true }), (76, { inl := true }), (77, { inl := true }), (79, { inl := true }), (61, { inl := true }), (62, { inl := true }), (47, { inl := true }), (44, { inl := true }), (46, { inl := true }), (78, { inl := true }), (21, { inl := true }), (27, { inl := true })]
  16 14 [] K) =
    (Sm 12 [lsl false 0 [int u8 48, int u8 20, int u8 48, int u8 13, int u8 2, int u8 1, int u8 1, int u8 48, int u8 0, int u8 48, int u8 0, int u8 48, int u8 0, int u8 48, int u8 0, int u8 48, int u8 0, int u8 48, int u8 0, int u8 3, int u8 1, int u8 0] 22 (some 22)] ((tup [lsl false 0 [int i64 2, int i64 15, int i64 0, int i64 0, int i64 4, int i64 3, int i64 7, int i64 2, int i64 9, int i64 2, int i64 11, int i64 2, int i64 13, int i64 2, int i64 15, int i64 2, int i64 0, int i64 0, int i64 0, int i64 0, int i64 0, int i64 0, int i64 17, int i64 2, int i64 19, int i64 3] 13 (some 13), int i64 0, int i64 0])) ∧ Sm 35 [lsl false 0 [int u8 48, int u8 20, int u8 48, int u8 13, int u8 2, int u8 1, int u8 1, int u8 48, int u8 0, int u8 48, int u8 0, int u8 48, int u8 0, int u8 48, int u8 0, int u8 48, int u8 0, int u8 48, int u8 0, int u8 3, int u8 1, int u8 0] 22 (some 22)] ((tup [agg [int u8 0, AV.bool true, int u32 16, nilS, lsl false 0 [int u8 0, AV.bool true, int u32 16, nilS, lsl false 0 [int u8 0, AV.bool false, int u32 2, lsl false 0 [int u8 1] 1 none, nilS, int u8 0, AV.bool true, int u32 16, nilS, nilS, int u8 0, AV.bool true, int u32 16, nilS, nilS, int u8 0, AV.bool true, int u32 16, nilS, nilS, int u8 0, AV.bool true, int u32 16, nilS, nilS, int u8 0, AV.bool true, int u32 16, nilS, nilS] 6 none, int u8 0, AV.bool true, int u32 16, nilS, nilS, int u8 0, AV.bool false, int u32 3, lsl false 0 [int u8 0] 1 none, nilS] 3 none], int i64 0, int i64 0])) ∧ Cl 20 [agg [int u8 0, AV.bool true, int u32 16, nilS, lsl false 0 [int u8 0, AV.bool true, int u32 16, nilS, lsl false 0 [int u8 0, AV.bool false, int u32 2, lsl false 0 [int u8 1] 1 none, nilS, int u8 0, AV.bool true, int u32 16, nilS, nilS, int u8 0, AV.bool true, int u32 16, nilS, nilS, int u8 0, AV.bool true, int u32 16, nilS, nilS, int u8 0, AV.bool true, int u32 16, nilS, nilS, int u8 0, AV.bool true, int u32 16, nilS, nilS] 6 none, int u8 0, AV.bool true, int u32 16, nilS, nilS, int u8 0, AV.bool false, int u32 3, lsl false 0 [int u8 0] 1 none, nilS] 3 none]] ⟨[], 0⟩ (AOut.ret (tup [agg [int i64 1, lsl false 0 [int i64 0] 1 (some 1), nilS, lsl false 0 [int i64 0, int i64 0] 2 (some 2), lsl false 0 [int i64 0, int i64 1] 2 (some 2), lsl false 0 [int i64 0, int i64 2] 2 (some 2), lsl false 0 [int i64 0, int i64 3] 2 (some 2), lsl false 0 [int i64 0, int i64 4] 2 (some 2), lsl false 0 [int i64 0, int i64 5] 2 (some 2), nilS, nilS, nilS, lsl false 0 [int i64 1] 1 (some 1), lsl false 0 [int i64 2] 1 (some 1)], agg [nilS, int i64 0]])) ⟨[], 0⟩ ∧ Cl 20 [agg [int u8 0, AV.bool true, int u32 16, nilS, rsl 0 0 3 (some 3)]] ⟨[some (AObj.cells [int u8 0, AV.bool true, int u32 16, nilS, rsl 1 0 7 none, int u8 0, AV.bool true, int u32 16, nilS, nilS, int u8 0, AV.bool false, int u32 3, lsl false 0 [int u8 0] 1 none, nilS] 32 false), some (AObj.cells [int u8 0, AV.bool false, int u32 2, lsl false 0 [int u8 1] 1 none, nilS, int u8 0, AV.bool true, int u32 16, nilS, nilS, int u8 0, AV.bool true, int u32 16, nilS, nilS, int u8 0, AV.bool true, int u32 16, nilS, nilS, int u8 0, AV.bool true, int u32 16, nilS, nilS, int u8 0, AV.bool true, int u32 16, nilS, nilS, int u8 2, AV.bool true, int u32 3, nilS, rsl 2 0 1 (some 1)] 32 true), some (AObj.cells [int u8 0, AV.bool true, int u32 16, nilS, nilS] 32 false)], 0⟩ (AOut.ret (tup [agg skel0, agg [lsl false 0 [int i64 0, int i64 6] 2 (some 2), int i64 16]])) ⟨[some (AObj.cells [int u8 0, AV.bool true, int u32 16, nilS, rsl 1 0 7 none, int u8 0, AV.bool true, int u32 16, nilS, nilS, int u8 0, AV.bool false, int u32 3, lsl false 0 [int u8 0] 1 none, nilS] 32 false), some (AObj.cells [int u8 0, AV.bool false, int u32 2, lsl false 0 [int u8 1] 1 none, nilS, int u8 0, AV.bool true, int u32 16, nilS, nilS, int u8 0, AV.bool true, int u32 16, nilS, nilS, int u8 0, AV.bool true, int u32 16, nilS, nilS, int u8 0, AV.bool true, int u32 16, nilS, nilS, int u8 0, AV.bool true, int u32 16, nilS, nilS, int u8 2, AV.bool true, int u32 3, nilS, rsl 2 0 1 (some 1)] 32 true), some (AObj.cells [int u8 0, AV.bool true, int u32 16, nilS, nilS] 32 false)], 0⟩ ∧ Cl 20 [agg [int u8 0, AV.bool true, int u32 16, nilS, rsl 0 0 3 (some 3)]] ⟨[some (AObj.cells [int u8 0, AV.bool true, int u32 16, nilS, rsl 1 0 7 none, int u8 0, AV.bool true, int u32 16, nilS, nilS, int u8 0, AV.bool false, int u32 3, lsl false 0 [int u8 0] 1 none, nilS] 32 false), some (AObj.cells [int u8 2, AV.bool true, int u32 0, nilS, rsl 2 0 1 (some 1), int u8 0, AV.bool false, int u32 2, lsl false 0 [int u8 1] 1 none, nilS, int u8 0, AV.bool true, int u32 16, nilS, nilS, int u8 0, AV.bool true, int u32 16, nilS, nilS, int u8 0, AV.bool true, int u32 16, nilS, nilS, int u8 0, AV.bool true, int u32 16, nilS, nilS, int u8 0, AV.bool true, int u32 16, nilS, nilS] 32 true), some (AObj.cells [int u8 0, AV.bool false, int u32 2, rsl 3 0 1 (some 1), nilS] 32 false), some (AObj.cells [int u8 0] 5 false)], 0⟩ (AOut.ret (tup [agg skel0, agg [lsl false 0 [int i64 0, int i64 0, int i64 0] 3 (some 3), int i64 11]])) ⟨[some (AObj.cells [int u8 0, AV.bool true, int u32 16, nilS, rsl 1 0 7 none, int u8 0, AV.bool true, int u32 16, nilS, nilS, int u8 0, AV.bool false, int u32 3, lsl false 0 [int u8 0] 1 none, nilS] 32 false), some (AObj.cells [int u8 2, AV.bool true, int u32 0, nilS, rsl 2 0 1 (some 1), int u8 0, AV.bool false, int u32 2, lsl false 0 [int u8 1] 1 none, nilS, int u8 0, AV.bool true, int u32 16, nilS, nilS, int u8 0, AV.bool true, int u32 16, nilS, nilS, int u8 0, AV.bool true, int u32 16, nilS, nilS, int u8 0, AV.bool true, int u32 16, nilS, nilS, int u8 0, AV.bool true, int u32 16, nilS, nilS] 32 true), some (AObj.cells [int u8 0, AV.bool false, int u32 2, rsl 3 0 1 (some 1), nilS] 32 false), some (AObj.cells [int u8 0] 5 false)], 0⟩ ∧ Cl 20 [agg [int u8 0, AV.bool true, int u32 16, nilS, rsl 0 0 3 (some 3)]] ⟨[some (AObj.cells [int u8 0, AV.bool true, int u32 16, nilS, rsl 1 0 7 none, int u8 0, AV.bool true, int u32 16, nilS, nilS, int u8 0, AV.bool false, int u32 3, lsl false 0 [int u8 0] 1 none, nilS] 32 false), some (AObj.cells [int u8 2, AV.bool true, int u32 0, nilS, rsl 2 0 1 (some 1), int u8 0, AV.bool false, int u32 2, lsl false 0 [int u8 1] 1 none, nilS, int u8 0, AV.bool true, int u32 16, nilS, nilS, int u8 0, AV.bool true, int u32 16, nilS, nilS, int u8 0, AV.bool true, int u32 16, nilS, nilS, int u8 0, AV.bool true, int u32 16, nilS, nilS, int u8 0, AV.bool true, int u32 16, nilS, nilS] 32 true), some (AObj.cells [int u8 0, AV.bool false, int u32 2, rsl 3 0 1 (some 1), nilS] 32 false), some (AObj.cells [int u8 3] 5 false)], 0⟩ (AOut.ret (tup [agg skel0, agg [lsl false 0 [int i64 0, int i64 0, int i64 0] 3 (some 3), int i64 16]])) ⟨[some (AObj.cells [int u8 0, AV.bool true, int u32 16, nilS, rsl 1 0 7 none, int u8 0, AV.bool true, int u32 16, nilS, nilS, int u8 0, AV.bool false, int u32 3, lsl false 0 [int u8 0] 1 none, nilS] 32 false), some (AObj.cells [int u8 2, AV.bool true, int u32 0, nilS, rsl 2 0 1 (some 1), int u8 0, AV.bool false, int u32 2, lsl false 0 [int u8 1] 1 none, nilS, int u8 0, AV.bool true, int u32 16, nilS, nilS, int u8 0, AV.bool true, int u32 16, nilS, nilS, int u8 0, AV.bool true, int u32 16, nilS, nilS, int u8 0, AV.bool true, int u32 16, nilS, nilS, int u8 0, AV.bool true, int u32 16, nilS, nilS] 32 true), some (AObj.cells [int u8 0, AV.bool false, int u32 2, rsl 3 0 1 (some 1), nilS] 32 false), some (AObj.cells [int u8 3] 5 false)], 0⟩ ∧ K (AOut.ret (AV.bool true))) := by kernel_rfl
end

theorem sm_cl {f : FuncId} {args : List AV} {v : AV} (h : Sm f args v) : Cl f args ⟨[], 0⟩ (.ret v) ⟨[], 0⟩ := by
  intro C vs hI hF ha
  refine (h C vs hI hF ha).mono fun e w ⟨C', hw, hX, h3, h4, h5⟩ => ⟨C', hw, ⟨hX.os, hX.tape, hX.output, hX.size, hX.tag, hX.prot, hX.shp, ?_, hX.snew, ?_, hX.frm⟩, h3, h4, h5⟩
  · intro id b hb
    have := hF id (Nat.zero_le _)
    rw [hb] at this; cases this
  · intro id b hb
    exact .inr (hX.pnew id b hb)

theorem elA_mk {c : Int} {k : Bool} {n : Int} {bs : List Int} {subs : List El} {b : AV} {nl : Bool} {cs : List AV} {len : Nat} {cap : Option Nat} (hl : subs.length = len) (hb : SI .u8 bs b) (hs : ElsA subs cs) (hc : capOk subs.length cap) (hlt : subs.length < 2 ^ 48) (hn : nl = true → subs = []) :
    ElA (.mk c k n bs subs) [.int .u8 c, .bool k, .int .u32 n, b, .lsl nl 0 cs len cap] := by
  subst hl
  simp only [ElA]
  exact ⟨b, nl, cs, cap, rfl, hb, hc, hlt, hn, hs⟩


theorem si_b (x : Int) : SI .u8 [x] (.lsl false 0 [.int .u8 x] 1 none) := ⟨false, [], none, rfl, capOk_none, by simp, by simp⟩
theorem si_nil0 : SI .u8 [] nilS := ⟨true, [], some 0, rfl, fun c hc => by cases hc; exact Nat.le_refl _, by decide, by simp⟩

theorem els_cons {e : El} {es : List El} {a b c d f : AV} {t : List AV} (h : ElA e [a, b, c, d, f]) (ht : ElsA es t) : ElsA (e :: es) (a :: b :: c :: d :: f :: t) := by
  simp only [ElsA]
  exact ⟨_, t, rfl, h, ht⟩
theorem els_nil {cs : List AV} : ElsA [] cs := by simp only [ElsA]

theorem eq16_rd : ElA eq16 [.int .u8 0, .bool true, .int .u32 16, nilS, nilS] :=
  elA_mk rfl si_nil0 els_nil (fun c hc => by cases hc; exact Nat.le_refl _) (by decide) (by simp)

theorem exE_rd : ElA exE [.int .u8 0, .bool true, .int .u32 16, nilS, .lsl false 0 [.int .u8 0, .bool true, .int .u32 16, nilS, .lsl false 0 [.int .u8 0, .bool false, .int .u32 2, .lsl false 0 [.int .u8 1] 1 none, nilS, .int .u8 0, .bool true, .int .u32 16, nilS, nilS, .int .u8 0, .bool true, .int .u32 16, nilS, nilS, .int .u8 0, .bool true, .int .u32 16, nilS, nilS, .int .u8 0, .bool true, .int .u32 16, nilS, nilS, .int .u8 0, .bool true, .int .u32 16, nilS, nilS] 6 none, .int .u8 0, .bool true, .int .u32 16, nilS, nilS, .int .u8 0, .bool false, .int .u32 3, .lsl false 0 [.int .u8 0] 1 none, nilS] 3 none] :=
  elA_mk rfl si_nil0
    (els_cons (elA_mk rfl si_nil0 (els_cons (elA_mk rfl (si_b 1) els_nil (fun c hc => by cases hc; exact Nat.le_refl _) (by decide) (by simp)) (els_cons eq16_rd (els_cons eq16_rd (els_cons eq16_rd (els_cons eq16_rd (els_cons eq16_rd els_nil)))))) capOk_none (by decide) (by simp))
      (els_cons eq16_rd (els_cons (elA_mk rfl (si_b 0) els_nil (fun c hc => by cases hc; exact Nat.le_refl _) (by decide) (by simp)) els_nil)))
    capOk_none (by decide) (by simp)

theorem ex20 : Sm 20 [.agg [.int .u8 0, .bool true, .int .u32 16, nilS, .lsl false 0 [.int .u8 0, .bool true, .int .u32 16, nilS, .lsl false 0 [.int .u8 0, .bool false, .int .u32 2, .lsl false 0 [.int .u8 1] 1 none, nilS, .int .u8 0, .bool true, .int .u32 16, nilS, nilS, .int .u8 0, .bool true, .int .u32 16, nilS, nilS, .int .u8 0, .bool true, .int .u32 16, nilS, nilS, .int .u8 0, .bool true, .int .u32 16, nilS, nilS, .int .u8 0, .bool true, .int .u32 16, nilS, nilS] 6 none, .int .u8 0, .bool true, .int .u32 16, nilS, nilS, .int .u8 0, .bool false, .int .u32 3, .lsl false 0 [.int .u8 0] 1 none, nilS] 3 none]] (.tup [.agg [.int .i64 1, .lsl false 0 [.int .i64 0] 1 (some 1), nilS, .lsl false 0 [.int .i64 0, .int .i64 0] 2 (some 2), .lsl false 0 [.int .i64 0, .int .i64 1] 2 (some 2), .lsl false 0 [.int .i64 0, .int .i64 2] 2 (some 2), .lsl false 0 [.int .i64 0, .int .i64 3] 2 (some 2), .lsl false 0 [.int .i64 0, .int .i64 4] 2 (some 2), .lsl false 0 [.int .i64 0, .int .i64 5] 2 (some 2), nilS, nilS, nilS, .lsl false 0 [.int .i64 1] 1 (some 1), .lsl false 0 [.int .i64 2] 1 (some 1)], .agg [nilS, .int .i64 0]]) := by
  obtain ⟨v, hv, hs⟩ := sum20 exE_rd
  rw [exOf] at hv
  obtain ⟨_, rfl⟩ := hv
  exact hs

/-- THE EXAMPLES OF THE CHAPTER HOLD. -/
theorem lives : Sm 14 [] (.bool true) := by
  obtain ⟨o, ho, h⟩ := dataT_ok env_ok (Eq.mpr (vc35c (fun o => o = _)) rfl)
  subst ho
  obtain ⟨out, rfl, hx⟩ := dataN_ok env2_ok (K := fun o => o = .ret (.bool true)) (Eq.mpr (vc14a _) ⟨ex12, h, sm_cl ex20, run2, run3, run4, rfl⟩)
  exact hx

end Go.Vid
