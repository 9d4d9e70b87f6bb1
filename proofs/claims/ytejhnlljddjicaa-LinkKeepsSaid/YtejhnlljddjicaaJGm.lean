/- heads: two objects are linked, run and looked up. No condition beyond those each theorem names. And more of the kind: 2 texts in one. -/
import Derived.Test.YtejhnlljddjicaaJGl
import Derived.Test.YtejhnlljddjicaaJGf
import Derived.Test.YtejhnlljddjicaaJGk
import Derived.Test.YtejhnlljddjicaaJPLkx5
import Derived.Test.YtejhnlljddjicaaJPLkx9
import Derived.Test.YtejhnlljddjicaaJGe
namespace Go.Proofs.Ytejhnlljddjicaa.Ma
open Go.RowKit Go.Maps Go.WideMaps Go.WideElems Go.ChangeMaps Go.ChangeShapes Go.WideShapes Go.Proofs.Ytejhnlljddjicaa.PLk Go.Proofs.YtejhnlljddjicaaW.PrintWords Go.Proofs.YtejhnlljddjicaaW.PrintLast Go.Proofs.YtejhnlljddjicaaW.PrintMore Go.Proofs.Ytejhnlljddjicaa.La
set_option linter.unusedVariables false
set_option linter.unusedSimpArgs false
variable {w w' W : World}
theorem C36 {g : Nat} (cs : Array Value) (xs : List S36) (h : w.heap[g]? = some (.cells cs 36 (0, 0))) (hl : xs.length ≤ 100) (hc : ∀ j p, xs[j]? = some p → ∀ i u, ([.int .i64 p.f0, .int .i64 p.f1, .int .i64 p.f2, .int .i64 p.f3, .int .i64 p.f4] : List Value)[i]? = some u → cs[j * 5 + i]? = some u) : Kd.C k36 w (some ⟨g, 0, none⟩) xs.length xs := by
 refine ⟨rfl, by omega, fun _ => ⟨_, rfl, fun j p hp => ⟨_, rfl, ⟨_, _, rfl, rfl, ⟨_, _, rfl, rfl, ⟨_, _, rfl, rfl, ⟨_, _, rfl, rfl, rfl⟩⟩⟩⟩, fun i u hu => ?_⟩⟩⟩
 rw [addr0, blk_cell h]
 exact hc j p hp i u hu
theorem wordsA_calls (w : World) (g : Nat) (h : w.heap[g]? = some (.cells #[.int .i64 99, .int .i64 0, .int .i64 0, .int .i64 0, .int .i64 0, .int .i64 114, .int .i64 1, .int .i64 0, .int .i64 0, .int .i64 0] 36 (0, 0))) : Calls Try.prog 14 #[.slice (some ⟨g, 0, none⟩) 2 2] w fun e w' => ∃ A k, e = .returned (.slice A 2 k) ∧ Kd.C (Kd.int .u32) w' A 2 [99, 370] ∧ 2 ≤ k ∧ Below w.heap.size w w' := by
 refine (mortiselaw25_words.calls 60 (some ⟨g, 0, none⟩) 2 [⟨99, 0, 0, 0, 0⟩, ⟨114, 1, 0, 0, 0⟩] _ w (C36 _ _ h (by decide) ?_) (by decide) wordsA).mono ?_
 ·intro j p hp i u hu
  match j, hp with
  | 0, hp | 1, hp =>
   simp at hp; subst hp
   match i, hu with
   | 0, hu | 1, hu | 2, hu | 3, hu | 4, hu => simp at hu; subst hu; rfl
   | n + 5, hu => simp at hu
  | n + 2, hp => simp at hp
 ·rintro e w' ⟨v, rfl, hV, hb⟩
  obtain ⟨A, k, rfl⟩ := Kd.R_slice hV
  obtain ⟨_, hk, hC⟩ := Kd.R_reads' hV
  exact ⟨A, k, rfl, hC, hk, hb⟩
theorem wordsB_calls (w : World) (g : Nat) (h : w.heap[g]? = some (.cells #[.int .i64 64, .int .i64 2, .int .i64 0, .int .i64 0, .int .i64 0, .int .i64 65, .int .i64 2, .int .i64 0, .int .i64 0, .int .i64 0, .int .i64 84, .int .i64 1, .int .i64 2, .int .i64 0, .int .i64 0, .int .i64 100, .int .i64 14, .int .i64 0, .int .i64 0, .int .i64 0] 36 (0, 0))) : Calls Try.prog 14 #[.slice (some ⟨g, 0, none⟩) 4 4] w fun e w' => ∃ A k, e = .returned (.slice A 4 k) ∧ Kd.C (Kd.int .u32) w' A 4 [576, 577, 8532, 3684] ∧ 4 ≤ k ∧ Below w.heap.size w w' := by
 refine (mortiselaw25_words.calls 60 (some ⟨g, 0, none⟩) 4 [⟨64, 2, 0, 0, 0⟩, ⟨65, 2, 0, 0, 0⟩, ⟨84, 1, 2, 0, 0⟩, ⟨100, 14, 0, 0, 0⟩] _ w (C36 _ _ h (by decide) ?_) (by decide) wordsB).mono ?_
 ·intro j p hp i u hu
  match j, hp with
  | 0, hp | 1, hp | 2, hp | 3, hp =>
   simp at hp; subst hp
   match i, hu with
   | 0, hu | 1, hu | 2, hu | 3, hu | 4, hu => simp at hu; subst hu; rfl
   | n + 5, hu => simp at hu
  | n + 4, hp => simp at hp
 ·rintro e w' ⟨v, rfl, hV, hb⟩
  obtain ⟨A, k, rfl⟩ := Kd.R_slice hV
  obtain ⟨_, hk, hC⟩ := Kd.R_reads' hV
  exact ⟨A, k, rfl, hC, hk, hb⟩
theorem objA_in {A : Option Addr} {k g2 g3 : Nat} (hC : Kd.C (Kd.int .u32) w A 2 [99, 370]) (hk : 2 ≤ k) (h2 : w.heap[g2]? = some (.cells #[.string ⟨#[102]⟩, .bool false, .int .i64 0] 66 (0, 0))) (h3 : w.heap[g3]? = some (.cells #[.int .i64 3, .int .i64 0, .string ⟨#[103]⟩, .int .i64 0] 46 (0, 0))) : ObjR w ⟨A, k, none, 0, some ⟨g2, 0, none⟩, 1, some ⟨g3, 0, none⟩, 1⟩ objA :=
 ⟨hC, C_none _ w, rows_of SymV.cells 3 h2 (by decide) (fun _ _ => rfl), rows_of FixV.cells 4 h3 (by decide) (fun _ _ => rfl), hk, Nat.le_refl 0, Nat.le_refl 1, Nat.le_refl 1⟩
theorem objB_in {A : Option Addr} {k g1 g2 g3 : Nat} (hC : Kd.C (Kd.int .u32) w A 4 [576, 577, 8532, 3684]) (hk : 4 ≤ k) (h1 : w.heap[g1]? = some (.cells #[.int .u8 1, .int .u8 0, .int .u8 0, .int .u8 0, .int .u8 42, .int .u8 0, .int .u8 0, .int .u8 0] 5 (0, 0))) (h2 : w.heap[g2]? = some (.cells #[.string ⟨#[103]⟩, .bool false, .int .i64 0, .string ⟨#[120]⟩, .bool true, .int .i64 0] 66 (0, 0))) (h3 : w.heap[g3]? = some (.cells #[.int .i64 2, .int .i64 0, .string ⟨#[120]⟩, .int .i64 4] 46 (0, 0))) : ObjR w ⟨A, k, some ⟨g1, 0, none⟩, 8, some ⟨g2, 0, none⟩, 2, some ⟨g3, 0, none⟩, 1⟩ objB := by
 refine ⟨hC, img_C (n := 8) ⟨h1, rfl⟩ (by decide), rows_of SymV.cells 3 h2 (by decide) (fun _ _ => rfl), rows_of FixV.cells 4 h3 (by decide) (fun _ _ => rfl), hk, Nat.le_refl 8, Nat.le_refl 2, Nat.le_refl 1⟩
theorem objs_two {g : Nat} {qa qb : Four} (h : w.heap[g]? = some (.cells #[.slice qa.a0 2 qa.c0, .slice qa.a1 0 qa.c1, .slice qa.a2 1 qa.c2, .slice qa.a3 1 qa.c3, .slice qb.a0 4 qb.c0, .slice qb.a1 8 qb.c1, .slice qb.a2 2 qb.c2, .slice qb.a3 1 qb.c3] 43 (0, 0))) (ha : ObjR w qa objA) (hb : ObjR w qb objB) : ObjsR w (some ⟨g, 0, none⟩) [objA, objB] := by
 refine ⟨fun j o ho => ?_⟩
 rcases two_of ho with ⟨rfl, rfl⟩ | ⟨rfl, rfl⟩
 ·exact ⟨_, qa, rfl, ha, by rw [addr0, blk_cell h]; rfl, by rw [addr0, blk_cell h]; rfl, by rw [addr0, blk_cell h]; rfl, by rw [addr0, blk_cell h]; rfl⟩
 ·exact ⟨_, qb, rfl, hb, by rw [addr0, blk_cell h]; rfl, by rw [addr0, blk_cell h]; rfl, by rw [addr0, blk_cell h]; rfl, by rw [addr0, blk_cell h]; rfl⟩
theorem objs_one {g : Nat} {qa : Four} (h : w.heap[g]? = some (.cells #[.slice qa.a0 2 qa.c0, .slice qa.a1 0 qa.c1, .slice qa.a2 1 qa.c2, .slice qa.a3 1 qa.c3] 43 (0, 0))) (ha : ObjR w qa objA) : ObjsR w (some ⟨g, 0, none⟩) [objA] := by
 refine ⟨fun j o ho => ?_⟩
 obtain ⟨rfl, rfl⟩ := one_of ho
 exact ⟨_, qa, rfl, ha, by rw [addr0, blk_cell h]; rfl, by rw [addr0, blk_cell h]; rfl, by rw [addr0, blk_cell h]; rfl, by rw [addr0, blk_cell h]; rfl⟩
theorem linkAB (A : Option Addr) (h : ObjsR w A [objA, objB]) : Calls Try.prog 4 #[.slice A 2 2, .string ⟨#[102]⟩] w fun e w' => ∃ g, e = .returned (.tuple #[.agg #[.slice (some ⟨g, 0, none⟩) 32 32, .int .i64 24, .int .i64 4096], .int .i64 0]) ∧ Kd.C (Kd.int .u8) w' (some ⟨g, 0, none⟩) 32 imgAB ∧ Below w.heap.size w w' := by
 refine (link_calls A 2 [objA, objB] h inAB (by decide) nF (by decide)).mono ?_
 rintro e w' ⟨⟨c, _, _, hn, _⟩ | ⟨g, img, hy, rfl, hi⟩, hb⟩
 ·exact absurd yesAB (hn _)
 ·have e1 : some img = some imgAB := hy.fixed.symm.trans fixAB
  injection e1 with e1
  subst e1
  refine ⟨g, by rw [sizeAB, startAB]; rfl, ?_, hb⟩
  rw [sizeAB] at hi
  exact img_C hi (by decide)
theorem linkA (A : Option Addr) (h : ObjsR w A [objA]) : Calls Try.prog 4 #[.slice A 1 1, .string ⟨#[102]⟩] w fun e w' => e = .returned (.tuple #[.agg #[.slice none 0 0, .int .i64 0, .int .i64 0], .int .i64 230]) ∧ Below w.heap.size w w' := by
 refine (link_calls A 1 [objA] h inA1 (by decide) nF (by decide)).mono ?_
 rintro e w' ⟨⟨c, rfl, _, _, h2⟩ | ⟨g, img, hy, rfl, hi⟩, hb⟩
 ·rw [h2 planA unkA]
  exact ⟨rfl, hb⟩
 ·exact absurd hy (noA _)
theorem findAB (A : Option Addr) (h : ObjsR w A [objA, objB]) : Calls Try.prog 16 #[.slice A 2 2, .string ⟨#[120]⟩] w fun e w' => e = .returned (.tuple #[.int .i64 4120, .bool true, .int .i64 0]) ∧ Below w.heap.size w w' := by
 refine (find_calls A 2 [objA, objB] h inAB (by decide) planAB nX (by decide)).mono ?_
 rintro e w' ⟨rfl, hb⟩
 exact ⟨by rw [findX, foundX], hb⟩
theorem runAB (w : World) (A : Option Addr) (hC : Kd.C (Kd.int .u8) w A 32 imgAB) : Calls Try.prog 15 #[.agg #[.slice A 32 32, .int .i64 24, .int .i64 4096], .slice none 0 0, .int .i64 100] w fun e w' => ∃ A2 m k2 n, e = .returned (.tuple #[.agg #[.int .i64 1, .int .i64 42, .slice A2 m k2, .int .i64 n], .int .i64 0]) ∧ Below w.heap.size w w' := by
 refine (xrun_yes w A 32 imgAB 24 4096 none 0 [] 100 hC (by decide) okAB bytesAB (C_none _ w) (by decide) (by simp) (by decide)).mono ?_
 rintro e w' ⟨v, rfl, hV, hb⟩
 obtain ⟨A2, k2, rfl⟩ := Kd.R_slice hV
 exact ⟨A2, _, k2, _, by rw [runStop, runExit], hb⟩
set_option maxHeartbeats 8000000 in
set_option maxRecDepth 100000 in
theorem heads_calls (w : World) : Calls Try.prog 5 #[] w fun e w' => e = .returned (.bool true) ∧ Below w.heap.size w w' := by
 go_enter Try.func5, Try.ntmps5
 go_upto_region 2 with (first | (go_at_call 14; refine (wordsA_calls _ w.heap.size (heap_at _ _ _ rfl)).mono ?_; rintro e Y ⟨A, k, rfl, hC, hk, hb⟩))
 have B1 := Aside0.mk (show Below w.heap.size w (((Y.alloc (.cells #[.string ⟨#[102]⟩, .bool false, .int .i64 0] 66)).alloc (.cells #[.int .i64 3, .int .i64 0, .string ⟨#[103]⟩, .int .i64 0] 46)).alloc (.cells #[.slice A 2 k, .slice none 0 0, .slice (some ⟨Y.heap.size, 0, none⟩) 1 1, .slice (some ⟨Y.heap.size + 1, 0, none⟩) 1 1] 43)) from below_alloc (below_alloc (below_alloc (pm_chain (below_alloc (Below.refl _ _) _) hb) _) _) _)
 have OA := Aside0.mk (objA_in (w := (((Y.alloc (.cells #[.string ⟨#[102]⟩, .bool false, .int .i64 0] 66)).alloc (.cells #[.int .i64 3, .int .i64 0, .string ⟨#[103]⟩, .int .i64 0] 46)).alloc (.cells #[.slice A 2 k, .slice none 0 0, .slice (some ⟨Y.heap.size, 0, none⟩) 1 1, .slice (some ⟨Y.heap.size + 1, 0, none⟩) 1 1] 43))) (g2 := Y.heap.size) (g3 := Y.heap.size + 1) (Kd.C_below hC (below_alloc (below_alloc (below_alloc (Below.refl Y.heap.size Y) _) _) _)) hk (blk_alloc (blk_alloc (heap_at _ _ _ rfl) _) _) (blk_alloc (heap_at _ _ _ (by simp)) _))
 have R1 := Aside0.mk (show ((((Y.alloc (.cells #[.string ⟨#[102]⟩, .bool false, .int .i64 0] 66)).alloc (.cells #[.int .i64 3, .int .i64 0, .string ⟨#[103]⟩, .int .i64 0] 46)).alloc (.cells #[.slice A 2 k, .slice none 0 0, .slice (some ⟨Y.heap.size, 0, none⟩) 1 1, .slice (some ⟨Y.heap.size + 1, 0, none⟩) 1 1] 43))).heap[Y.heap.size + 1 + 1]? = some (.cells #[.slice A 2 k, .slice none 0 0, .slice (some ⟨Y.heap.size, 0, none⟩) 1 1, .slice (some ⟨Y.heap.size + 1, 0, none⟩) 1 1] 43 (0, 0)) from heap_at _ _ _ (by simp))
 clear hC hk hb
 generalize (((Y.alloc (.cells #[.string ⟨#[102]⟩, .bool false, .int .i64 0] 66)).alloc (.cells #[.int .i64 3, .int .i64 0, .string ⟨#[103]⟩, .int .i64 0] 46)).alloc (.cells #[.slice A 2 k, .slice none 0 0, .slice (some ⟨Y.heap.size, 0, none⟩) 1 1, .slice (some ⟨Y.heap.size + 1, 0, none⟩) 1 1] 43)) = W1 at B1 OA R1 ⊢
 generalize Y.heap.size + 1 + 1 = g1 at R1 ⊢
 generalize Y.heap.size + 1 = gf at OA R1 ⊢
 generalize Y.heap.size = gs at OA R1 ⊢
 go_upto_region 3 with (first | (go_at_call 14; refine (wordsB_calls _ W1.heap.size (heap_at _ _ _ rfl)).mono ?_; rintro e Y2 ⟨A2, k2, rfl, hC, hk, hb⟩))
 have B2 := Aside0.mk (show Below W1.heap.size W1 ((((Y2.alloc (.cells #[.int .u8 1, .int .u8 0, .int .u8 0, .int .u8 0, .int .u8 42, .int .u8 0, .int .u8 0, .int .u8 0] 5)).alloc (.cells #[.string ⟨#[103]⟩, .bool false, .int .i64 0, .string ⟨#[120]⟩, .bool true, .int .i64 0] 66)).alloc (.cells #[.int .i64 2, .int .i64 0, .string ⟨#[120]⟩, .int .i64 4] 46)).alloc (.cells #[.slice A2 4 k2, .slice (some ⟨Y2.heap.size, 0, none⟩) 8 8, .slice (some ⟨Y2.heap.size + 1, 0, none⟩) 2 2, .slice (some ⟨Y2.heap.size + 1 + 1, 0, none⟩) 1 1] 43)) from below_alloc (below_alloc (below_alloc (below_alloc (pm_chain (below_alloc (Below.refl _ _) _) hb) _) _) _) _)
 have OB := Aside0.mk (objB_in (w := ((((Y2.alloc (.cells #[.int .u8 1, .int .u8 0, .int .u8 0, .int .u8 0, .int .u8 42, .int .u8 0, .int .u8 0, .int .u8 0] 5)).alloc (.cells #[.string ⟨#[103]⟩, .bool false, .int .i64 0, .string ⟨#[120]⟩, .bool true, .int .i64 0] 66)).alloc (.cells #[.int .i64 2, .int .i64 0, .string ⟨#[120]⟩, .int .i64 4] 46)).alloc (.cells #[.slice A2 4 k2, .slice (some ⟨Y2.heap.size, 0, none⟩) 8 8, .slice (some ⟨Y2.heap.size + 1, 0, none⟩) 2 2, .slice (some ⟨Y2.heap.size + 1 + 1, 0, none⟩) 1 1] 43))) (g1 := Y2.heap.size) (g2 := Y2.heap.size + 1) (g3 := Y2.heap.size + 1 + 1) (Kd.C_below hC (below_alloc (below_alloc (below_alloc (below_alloc (Below.refl Y2.heap.size Y2) _) _) _) _)) hk (blk_alloc (blk_alloc (blk_alloc (heap_at _ _ _ rfl) _) _) _) (blk_alloc (blk_alloc (heap_at _ _ _ (by simp)) _) _) (blk_alloc (heap_at _ _ _ (by simp)) _))
 have R2 := Aside0.mk (show (((((Y2.alloc (.cells #[.int .u8 1, .int .u8 0, .int .u8 0, .int .u8 0, .int .u8 42, .int .u8 0, .int .u8 0, .int .u8 0] 5)).alloc (.cells #[.string ⟨#[103]⟩, .bool false, .int .i64 0, .string ⟨#[120]⟩, .bool true, .int .i64 0] 66)).alloc (.cells #[.int .i64 2, .int .i64 0, .string ⟨#[120]⟩, .int .i64 4] 46)).alloc (.cells #[.slice A2 4 k2, .slice (some ⟨Y2.heap.size, 0, none⟩) 8 8, .slice (some ⟨Y2.heap.size + 1, 0, none⟩) 2 2, .slice (some ⟨Y2.heap.size + 1 + 1, 0, none⟩) 1 1] 43))).heap[Y2.heap.size + 1 + 1 + 1]? = some (.cells #[.slice A2 4 k2, .slice (some ⟨Y2.heap.size, 0, none⟩) 8 8, .slice (some ⟨Y2.heap.size + 1, 0, none⟩) 2 2, .slice (some ⟨Y2.heap.size + 1 + 1, 0, none⟩) 1 1] 43 (0, 0)) from heap_at _ _ _ (by simp))
 clear hC hk hb
 generalize ((((Y2.alloc (.cells #[.int .u8 1, .int .u8 0, .int .u8 0, .int .u8 0, .int .u8 42, .int .u8 0, .int .u8 0, .int .u8 0] 5)).alloc (.cells #[.string ⟨#[103]⟩, .bool false, .int .i64 0, .string ⟨#[120]⟩, .bool true, .int .i64 0] 66)).alloc (.cells #[.int .i64 2, .int .i64 0, .string ⟨#[120]⟩, .int .i64 4] 46)).alloc (.cells #[.slice A2 4 k2, .slice (some ⟨Y2.heap.size, 0, none⟩) 8 8, .slice (some ⟨Y2.heap.size + 1, 0, none⟩) 2 2, .slice (some ⟨Y2.heap.size + 1 + 1, 0, none⟩) 1 1] 43)) = W2 at B2 OB R2 ⊢
 generalize Y2.heap.size + 1 + 1 + 1 = g2 at R2 ⊢
 generalize Y2.heap.size + 1 + 1 = hf at OB R2 ⊢
 generalize Y2.heap.size + 1 = hs at OB R2 ⊢
 generalize Y2.heap.size = hd at OB R2 ⊢
 have R3 := Aside0.mk (blk_below R1.out B2.out)
 have OC := Aside0.mk (OA.out.below B2.out)
 have c0 := (blk_cell R3.out 0).trans rfl
 have c1 := (blk_cell R3.out 1).trans rfl
 have c2 := (blk_cell R3.out 2).trans rfl
 have c3 := (blk_cell R3.out 3).trans rfl
 have d0 := (blk_cell R2.out 0).trans rfl
 have d1 := (blk_cell R2.out 1).trans rfl
 have d2 := (blk_cell R2.out 2).trans rfl
 have d3 := (blk_cell R2.out 3).trans rfl
 go_upto_region 4 with (first | (go_at_call 4; refine (linkAB _ (objs_two (g := W2.heap.size) (heap_at _ _ _ rfl) (OC.out.below (below_alloc (Below.refl _ _) _)) (OB.out.below (below_alloc (Below.refl _ _) _)))).mono ?_; rintro e Y3 ⟨gi, rfl, hC, hb⟩))
 have B3 := Aside0.mk (show Below W2.heap.size W2 (Y3.alloc (.cells #[.slice (some ⟨gi, 0, none⟩) 32 32, .int .i64 24, .int .i64 4096] 25)) from below_alloc (pm_chain (below_alloc (Below.refl _ _) _) hb) _)
 have R4 := Aside0.mk (show (Y3.alloc (.cells #[.slice (some ⟨gi, 0, none⟩) 32 32, .int .i64 24, .int .i64 4096] 25)).heap[Y3.heap.size]? = some (.cells #[.slice (some ⟨gi, 0, none⟩) 32 32, .int .i64 24, .int .i64 4096] 25 (0, 0)) from heap_at _ _ _ rfl)
 have CI := Aside0.mk (Kd.C_below hC (below_alloc (Below.refl Y3.heap.size Y3) (.cells #[.slice (some ⟨gi, 0, none⟩) 32 32, .int .i64 24, .int .i64 4096] 25)))
 clear hC hb c0 c1 c2 c3 d0 d1 d2 d3
 generalize Y3.alloc (.cells #[.slice (some ⟨gi, 0, none⟩) 32 32, .int .i64 24, .int .i64 4096] 25) = W3 at B3 R4 CI ⊢
 generalize Y3.heap.size = g3 at R4 ⊢
 have e0 := (blk_cell R4.out 0).trans rfl
 have e1 := (blk_cell R4.out 1).trans rfl
 have e2 := (blk_cell R4.out 2).trans rfl
 go_upto_region 5 with (first | (go_at_call 15; refine (runAB _ _ CI.out).mono ?_; rintro e Y4 ⟨A4, m4, k4, n4, rfl, hb⟩))
 have B4 := Aside0.mk (show Below W3.heap.size W3 (Y4.alloc (.cells #[.int .i64 1, .int .i64 42, .slice A4 m4 k4, .int .i64 n4] 69)) from below_alloc hb _)
 have R5 := Aside0.mk (show (Y4.alloc (.cells #[.int .i64 1, .int .i64 42, .slice A4 m4 k4, .int .i64 n4] 69)).heap[Y4.heap.size]? = some (.cells #[.int .i64 1, .int .i64 42, .slice A4 m4 k4, .int .i64 n4] 69 (0, 0)) from heap_at _ _ _ rfl)
 clear hb e0 e1 e2
 generalize Y4.alloc (.cells #[.int .i64 1, .int .i64 42, .slice A4 m4 k4, .int .i64 n4] 69) = W4 at B4 R5 ⊢
 generalize Y4.heap.size = g5 at R5 ⊢
 have B34 := Aside0.mk (pm_chain B3.out B4.out)
 have R6 := Aside0.mk (blk_below R3.out B34.out)
 have OD := Aside0.mk (OC.out.below B34.out)
 have c0 := (blk_cell R6.out 0).trans rfl
 have c1 := (blk_cell R6.out 1).trans rfl
 have c2 := (blk_cell R6.out 2).trans rfl
 have c3 := (blk_cell R6.out 3).trans rfl
 go_upto_region 6 with (first | (go_at_call 4; refine (linkA _ (objs_one (g := W4.heap.size) (heap_at _ _ _ rfl) (OD.out.below (below_alloc (Below.refl _ _) _)))).mono ?_; rintro e Y5 ⟨rfl, hb⟩))
 have B5 := Aside0.mk (show Below W4.heap.size W4 (Y5.alloc (.cells #[.slice none 0 0, .int .i64 0, .int .i64 0] 25)) from below_alloc (pm_chain (below_alloc (Below.refl _ _) _) hb) _)
 clear hb c0 c1 c2 c3
 generalize Y5.alloc (.cells #[.slice none 0 0, .int .i64 0, .int .i64 0] 25) = W5 at B5 ⊢
 generalize Y5.heap.size = g6
 have B35 := Aside0.mk (pm_chain B34.out B5.out)
 have R7 := Aside0.mk (blk_below R3.out B35.out)
 have R8 := Aside0.mk (blk_below R2.out B35.out)
 have R9 := Aside0.mk (blk_below R5.out B5.out)
 have OE := Aside0.mk (OC.out.below B35.out)
 have OF := Aside0.mk (OB.out.below B35.out)
 have c0 := (blk_cell R7.out 0).trans rfl
 have c1 := (blk_cell R7.out 1).trans rfl
 have c2 := (blk_cell R7.out 2).trans rfl
 have c3 := (blk_cell R7.out 3).trans rfl
 have d0 := (blk_cell R8.out 0).trans rfl
 have d1 := (blk_cell R8.out 1).trans rfl
 have d2 := (blk_cell R8.out 2).trans rfl
 have d3 := (blk_cell R8.out 3).trans rfl
 go_upto_region 7 with (first | (go_at_call 16; refine (findAB _ (objs_two (g := W5.heap.size) (heap_at _ _ _ rfl) (OE.out.below (below_alloc (Below.refl _ _) _)) (OF.out.below (below_alloc (Below.refl _ _) _)))).mono ?_; rintro e Y6 ⟨rfl, hb⟩))
 have B6 := Aside0.mk (show Below W5.heap.size W5 Y6 from pm_chain (below_alloc (Below.refl _ _) _) hb)
 have R10 := Aside0.mk (blk_below R9.out B6.out)
 clear hb c0 c1 c2 c3 d0 d1 d2 d3
 have f0 := (blk_cell R10.out 0).trans rfl
 have f1 := (blk_cell R10.out 1).trans rfl
 go_wp2_with (fail)
 go_ret
 exact ⟨rfl, pm_chain B1.out (pm_chain B2.out (pm_chain B35.out B6.out))⟩
end Go.Proofs.Ytejhnlljddjicaa.Ma
namespace Go.Proofs.Ytejhnlljddjicaa.Ma
open Go.RowKit Go.Maps Go.WideMaps Go.WideElems Go.ChangeMaps Go.ChangeShapes Go.WideShapes Go.Proofs.Ytejhnlljddjicaa.PLk Go.Proofs.YtejhnlljddjicaaW.PrintWords Go.Proofs.YtejhnlljddjicaaW.PrintLast Go.Proofs.YtejhnlljddjicaaW.PrintMore Go.Proofs.Ytejhnlljddjicaa.La
set_option linter.unusedVariables false
set_option linter.unusedSimpArgs false
variable {w w' W : World}
/-- What is good in an image. -/
structure Good (ls : List ObjV) (N cn : Nat) (pl : Int) (img : List Int) : Prop where
 plan : PlanOk ls
 code : CodeOk ls img
 size : sizeN ls = N
 words : codeN ls ls.length = 4 * (cn : Int)
 check : mortiseref21_Check.f img (4 * (cn : Int)) pl = some 0
 most : N ≤ 1048576
 le : 4 * cn ≤ N
theorem place_code {ls : List ObjV} (hc : ∀ (j : Nat) (o : ObjV), ls[j]? = some o → CheckOk o) (s : ByteArray) (h : (placeF (allN ls) s).2 = true) : 4096 ≤ (placeF (allN ls) s).1 ∧ (placeF (allN ls) s).1 % 4 = 0 := by
 unfold placeF look allN at h ⊢
 cases hf : (namesN ls ls.length).find? (fun p => decide (p.1 = s)) with
 | none => rw [hf] at h; simp at h
 | some p =>
  rw [hf] at h
  have := names_where ls hc ls.length (Nat.le_refl _) p (List.mem_of_find?_eq_some hf)
  simp only [Option.map_some, Option.getD_some] at h ⊢
  exact ⟨this.1, (this.2.2 h).1⟩
theorem good_of {ls : List ObjV} (hI : ∀ o ∈ ls, o.In) {start : ByteArray} {img : List Int} (h : LinkYes ls start img) : ∃ cn : Nat, Good ls (sizeN ls) cn (placeF (allN ls) start).1 img := by
 have hk := link_keeps h hI
 have h4 : codeN ls ls.length % 4 = 0 := code_four ls.length
 have h0 := codeN_nonneg (ls := ls) ls.length
 have hs := sizeN_is ls
 have hm := h.most
 have hne := h.some_
 have hp := place_code h.plan.each start h.code
 have hin := h.in_
 have hend := endN_mono (ls := ls) 0 ls.length
 have he0 : endN ls 0 = 4096 + codeN ls ls.length := rfl
 rw [Nat.zero_add, he0] at hend
 have hl := hk.len
 obtain ⟨c, hc⟩ : ∃ c, codeN ls ls.length = c := ⟨_, rfl⟩
 obtain ⟨p, hpl⟩ : ∃ p, (placeF (allN ls) start).1 = p := ⟨_, rfl⟩
 rw [hc] at h4 h0 hne hin hend
 rw [hpl] at hp hin ⊢
 have hcn : c = 4 * ((c / 4).toNat : Int) := by omega
 refine ⟨(c / 4).toNat, h.plan, hk, rfl, by rw [hc]; exact hcn, ?_, by omega, by omega⟩
 rw [← hcn]
 have hL : (img.length : Int) = (sizeN ls : Int) := by rw [hl]
 have t1 : Int.tmod c 4 = 0 := by rw [Int.tmod_eq_emod_of_nonneg h0]; exact h4
 have t2 : Int.tmod p 4 = 0 := by rw [Int.tmod_eq_emod_of_nonneg (by omega)]; exact hp.2
 have w1 : wrap64 (4096 + c) = 4096 + c := by unfold wrap64; omega
 have w2 : wrap64 (4096 + c - 4) = 4096 + c - 4 := by unfold wrap64; omega
 unfold mortiseref21_Check.f
 rw [if_neg (by omega), if_pos t1, if_neg (by omega), if_neg (by omega), if_neg (by omega), w1, w2, if_neg (by omega), if_pos t2]
theorem link_good (A : Option Addr) (cap : Nat) (ls : List ObjV) (hO : ObjsR w A ls) (hI : ∀ o ∈ ls, o.In) (hl : ls.length ≤ 1466015503700) (start : ByteArray) (hs : start.size ≤ 140737488355328) :
  Calls Try.prog 4 #[.slice A ls.length cap, .string start] w fun e w' => ((∃ c : Int, e = .returned (.tuple #[.agg #[.slice none 0 0, .int .i64 0, .int .i64 0], .int .i64 c]) ∧ c ≠ 0) ∨
   (∃ (g : Nat) (img : List Int) (N cn : Nat) (pl : Int), e = .returned (.tuple #[.agg #[.slice (some ⟨g, 0, none⟩) N N, .int .i64 (4 * (cn : Int)), .int .i64 pl], .int .i64 0]) ∧ Good ls N cn pl img ∧ Img w' g N img)) ∧ Below w.heap.size w w' := by
 refine (link_calls A cap ls hO hI hl start hs).mono ?_
 rintro e w' ⟨⟨c, h1, h2, _, _⟩ | ⟨g, img, hy, rfl, hi⟩, hb⟩
 ·exact ⟨.inl ⟨c, h1, h2⟩, hb⟩
 ·obtain ⟨cn, hg⟩ := good_of hI hy
  exact ⟨.inr ⟨g, img, _, cn, _, by rw [hg.words], hg, hi⟩, hb⟩
/-- A word of the image, read by the reference. -/
theorem value_word {w : World} {img : List Int} {ls : List ObjV} (hk : CodeOk ls img) (A : Option Addr) (c a : Nat) (hc : 4 ≤ c) (ha : a + 4 ≤ img.length) (hC : Kd.C (Kd.int .u8) w A 4 ((img.drop a).take 4)) :
  Calls Try.prog 7 #[.slice A 4 c, .bool false] w fun e w' => e = .returned (.tuple #[.int .u32 (wordAt img a), .int .i64 0]) ∧ Below w.heap.size w w' := by
 have hl : ((img.drop a).take 4).length = 4 := by rw [List.length_take, List.length_drop]; omega
 have h := mortiseref01_Value.calls 20 A c ((img.drop a).take 4) false (wordAt img a) 0 w (by rw [hl]; exact hC) (by rw [hl]; exact hc) (value_at hk.bytes ha).1
 rw [hl] at h
 exact h.mono (fun e w' k => ⟨k.1, k.2.below⟩)
theorem check_word {W : World} {g N cn : Nat} {pl : Int} {img : List Int} {ls : List ObjV} (hg : Good ls N cn pl img) (hi : Img W g N img) :
  Calls Try.prog 6 #[.agg #[.slice (some ⟨g, 0, none⟩) N N, .int .i64 (4 * (cn : Int)), .int .i64 pl]] W fun e w' => e = .returned (.int .i64 0) ∧ Below W.heap.size W w' := by
 have hm := hg.most
 have h := mortiseref21_Check.calls (some ⟨g, 0, none⟩) N img (4 * (cn : Int)) pl 0 W (by rw [hi.len]; exact img_C hi (by omega)) (by rw [hi.len]; exact Nat.le_refl N) hg.check
 rwa [hi.len] at h
theorem dec_word {v : Int} (hv : 0 ≤ v ∧ v < 4294967296) (h : (decF v).isSome = true) : ∃ a b c d i : Int, ∀ w : World, Calls Try.prog 8 #[.int .u32 v] w fun e w' => e = .returned (.tuple #[.agg #[.int .i64 a, .int .i64 b, .int .i64 c, .int .i64 d, .int .i64 i], .int .i64 0]) ∧ Below w.heap.size w w' := by
 obtain ⟨x, hx⟩ := Option.isSome_iff_exists.1 h
 refine ⟨x.op, x.a, x.b, x.c, x.imm, fun w => (xdec_all w v hv).mono (fun e w' k => ⟨?_, k.2⟩)⟩
 rw [k.1, hx]
 rfl
/-- The fixes up to n that turn word k. -/
def anyN (o : ObjV) (k n : Nat) : Bool := (o.fixes.take n).any (fixedB k)
theorem anyN_next {o : ObjV} {k n : Nat} {x : FixV} (hx : o.fixes[n]? = some x) : anyN o k (n + 1) = (anyN o k n || fixedB k x) := by
 unfold anyN
 rw [take_next hx, List.any_append]
 simp
theorem fixed_is (k : Nat) (fk fo fa : Int) (fn : ByteArray) : fixedB k ⟨fk, fo, fn, fa⟩ = (fk != 1 && (fo == 4 * (k : Int) || (fk == 2 && fo + 4 == 4 * (k : Int)))) := rfl
theorem anyN_all (o : ObjV) (k : Nat) : anyN o k o.fixes.length = o.fixes.any (fixedB k) := by
 unfold anyN
 rw [List.take_length]
end Go.Proofs.Ytejhnlljddjicaa.Ma
