/- Maps of this program: names to numbers, spots to numbers, names to places. No condition beyond those each theorem names. And more of the kind: 3 texts in one. -/
import Derived.Test.YtejhnlljddjicaaJGg
import Derived.DeepKeys4
import Derived.StringKeys
import Derived.RegionTactic
import Derived.BigRegion
namespace Go.Proofs.Ytejhnlljddjicaa.Ma
open Go.RowKit Go.Maps Go.WideMaps Go.WideElems Go.ChangeMaps Go.ChangeShapes Go.WideShapes Go.Proofs.Ytejhnlljddjicaa.PLk Go.Proofs.YtejhnlljddjicaaW.PrintWords Go.Proofs.YtejhnlljddjicaaW.PrintLast Go.Proofs.YtejhnlljddjicaaW.PrintMore Go.Proofs.Ytejhnlljddjicaa.La
set_option linter.unusedVariables false
set_option linter.unusedSimpArgs false
variable {w w' W : World}
theorem law9 : Keyed Try.prog 9 := string_keyed Try.underlying9
theorem key9 (s : ByteArray) (hs : s.size ≤ 140737488355328) : ∃ l, keyOf Try.prog 9 (.string s) = some l := ⟨_, keyOf_string_mk Try.underlying9 (by unfold maxLen; omega)⟩
theorem laid_out : laidOutB Try.prog = true := by kernel_rfl
theorem law109 : Keyed Try.prog 109 := Keyed.of_law (deep_law_laid laid_out (m := 2) (by omega) (of_decide_eq_true (by kernel_rfl)) (by kernel_rfl) (by rw [Try.underlying109]))
theorem zero3 (W : World) : (zeroValue 3).run Try.prog W = .ok (.int .i64 0) W := by kernel_rfl
theorem zero54 (W : World) : (zeroValue 54).run Try.prog W = .ok (.agg #[.int .i64 0, .bool false]) W := by kernel_rfl
theorem key109 (d : Bool) (n : Int) (hn : -9223372036854775808 ≤ n ∧ n ≤ 9223372036854775807) : ∃ l, keyOf Try.prog 109 (.agg #[.bool d, .int .i64 n]) = some l := by
 have hk : Try.prog.keyType 109 = true := by kernel_rfl
 have hf : (Value.agg #[.bool d, .int .i64 n]).formed Try.prog 109 = true := by
  simp [Value.formed, Try.underlying109]; kernel_rfl
 have hw : (Lit.int .i64 n).wf = true := WalkArith.wf_i64 hn
 have h4 : Try.prog.cellsOf 4 = 1 := by kernel_rfl
 have h3 : Try.prog.cellsOf 3 = 1 := by kernel_rfl
 obtain ⟨m, hm⟩ : ∃ m, Try.prog.types.size = m + 1 := ⟨_, rfl⟩
 unfold keyOf
 simp only [Try.underlying109]
 rw [if_pos (by simp [hk, hf]), hm]
 unfold Program.keyLits
 simp only [Try.underlying109, Value.cells]
 rw [if_pos (by constructor <;> kernel_rfl)]
 simp [Program.keyLits, Try.underlying4, Try.underlying3, hw, h3, h4]
theorem MapV.below {P : Program} {k : TypeId} {b : Nat} {f : Value → Option Value} (h : MapV P k w b f) (hb : Below w.heap.size w W) : MapV P k W b f := h.moved (hb.block b h.lt)
theorem below_setBlock {B : Nat} {w W : World} (h : Below B w W) {b : Nat} (hb : B ≤ b) (o : Obj) : Below B w (setBlock W b o) :=
 ⟨h.os, h.tape, h.output, by simpa [setBlock] using h.size, fun i hi => (setBlock_ne W b o (by omega)).trans (h.block i hi)⟩
open Classical in
/-- The map in which each key of a list has 1. -/
noncomputable def setF (L : List Value) : Value → Option Value := fun v => if v ∈ L then some (.int .i64 1) else none
theorem setF_in {L : List Value} {v : Value} (h : v ∈ L) : setF L v = some (.int .i64 1) := by unfold setF; rw [if_pos h]
theorem setF_out {L : List Value} {v : Value} (h : v ∉ L) : setF L v = none := by unfold setF; rw [if_neg h]
theorem upd_setF (L : List Value) (x : Value) : upd (setF L) x (.int .i64 1) = setF (x :: L) := by
 funext y
 by_cases h : y = x
 ·subst h
  rw [upd_same, setF_in List.mem_cons_self]
 ·rw [upd_other _ _ h]
  by_cases h2 : y ∈ L
  ·rw [setF_in h2, setF_in (List.mem_cons_of_mem _ h2)]
  ·rw [setF_out h2, setF_out (by simp [h, h2])]
theorem setF_eq {L M : List Value} (h : ∀ v, v ∈ L ↔ v ∈ M) : setF L = setF M := by
 funext v
 by_cases hv : v ∈ L
 ·rw [setF_in hv, setF_in ((h v).1 hv)]
 ·rw [setF_out hv, setF_out (fun k => hv ((h v).2 k))]
theorem setF_nil : setF [] = fun _ => none := by
 funext v
 exact setF_out (by simp)
/-- A spot as a key. -/
def spotV (p : Bool × Int) : Value := .agg #[.bool p.1, .int .i64 p.2]
theorem spotV_inj {p q : Bool × Int} (h : spotV p = spotV q) : p = q := by
 unfold spotV at h
 injection h with h
 have h1 : p.1 = q.1 ∧ p.2 = q.2 := by simpa using h
 exact Prod.ext h1.1 h1.2
theorem string_inj {a b : ByteArray} (h : Value.string a = Value.string b) : a = b := by injection h
/-- The spots of a fix. -/
def spotsOf (o : ObjV) (x : FixV) : List (Bool × Int) := (List.range (fitsF o x).1.toNat).map fun k : Nat => (x.kind == 1, x.off + (k : Int))
def mostF (o : ObjV) (x : SymV) : Int := if x.data = true then (o.data.length : Int) else 4 * (o.code.length : Int)
/-- A name of an object may be. -/
structure SymOk (o : ObjV) (j : Nat) (x : SymV) : Prop where
 name : nameF x.name = true
 new : ∀ y ∈ o.syms.take j, y.name ≠ x.name
 lo : 0 ≤ x.off
 hi : x.off ≤ mostF o x
 four : x.data = false → x.off % 4 = 0
/-- A fix of an object may be. -/
structure FixOk (o : ObjV) (j : Nat) (x : FixV) : Prop where
 fits : (fitsF o x).2 = true
 new : ∀ s ∈ spotsOf o x, s ∉ (o.fixes.take j).flatMap (spotsOf o)
/-- An object may be one. -/
structure CheckOk (o : ObjV) : Prop where
 ncode : 4 * (o.code.length : Int) ≤ 1048576
 ndata : (o.data.length : Int) ≤ 1048576
 code : ∀ (k : Nat) (v : Int), o.code[k]? = some v → (decF v).isSome = true
 syms : ∀ (k : Nat) (x : SymV), o.syms[k]? = some x → SymOk o k x
 fixes : ∀ (k : Nat) (x : FixV), o.fixes[k]? = some x → FixOk o k x
theorem fits_off {o : ObjV} {x : FixV} (hI : o.In) (h : (fitsF o x).2 = true) : 0 ≤ x.off ∧ x.off ≤ 562949953421312 ∧ 0 ≤ (fitsF o x).1 ∧ (fitsF o x).1 ≤ 8 := by
 have hi : ∀ {f : Int}, (instrF o f).isSome = true → 0 ≤ f ∧ f ≤ 562949953421312 := by
  intro f h1
  unfold instrF at h1
  split at h1
  ·cases h1
  ·next h2 => have := hI.ncode; omega
 unfold fitsF at h ⊢
 split at h
 ·cases h
 next h0 =>
  rw [if_neg h0]
  split at h
  ·next k1 =>
   rw [if_pos k1]
   simp only [Bool.and_eq_true, decide_eq_true_eq] at h
   have := hI.ndata
   simp only
   omega
  next k1 =>
   rw [if_neg k1]
   split at h
   ·next k2 =>
    rw [if_pos k2]
    split at h
    ·cases h
    ·next s =>
     rw [if_neg s]
     have := hi (f := x.off) (by cases h9 : (instrF o x.off).isSome with | true => rfl | false => exact absurd h9 s)
     simp only
     omega
   next k2 =>
    rw [if_neg k2]
    split at h
    ·next k3 =>
     rw [if_pos k3]
     simp only [Bool.and_eq_true] at h
     have := hi (f := x.off) h.1.1.1
     simp only
     omega
    next k3 =>
     rw [if_neg k3]
     split at h
     ·next k4 =>
      rw [if_pos k4]
      simp only [Bool.and_eq_true] at h
      have := hi (f := x.off) h.1.1.1
      simp only
      omega
     ·cases h
end Go.Proofs.Ytejhnlljddjicaa.Ma
namespace Go.Proofs.Ytejhnlljddjicaa.Ma
open Go.RowKit Go.Maps Go.WideMaps Go.WideElems Go.ChangeMaps Go.ChangeShapes Go.WideShapes Go.Proofs.Ytejhnlljddjicaa.PLk Go.Proofs.YtejhnlljddjicaaW.PrintWords Go.Proofs.YtejhnlljddjicaaW.PrintLast Go.Proofs.YtejhnlljddjicaaW.PrintMore Go.Proofs.Ytejhnlljddjicaa.La
set_option linter.unusedVariables false
set_option linter.unusedSimpArgs false
variable {w w' W : World}
/-- A number that is 0 just if something holds. -/
def ErrIs (P : Prop) (e : Ending) : Prop := ∃ c : Int, e = .returned (.int .i64 c) ∧ (c = 0 ↔ P)
theorem ErrIs.no {P : Prop} {c : Int} (h : ¬ P) (hc : c ≠ 0) : ErrIs P (.returned (.int .i64 c)) := ⟨c, rfl, fun e => absurd e hc, fun p => absurd p h⟩
theorem take_next {α : Type} {xs : List α} {k : Nat} {x : α} (h : xs[k]? = some x) : xs.take (k + 1) = xs.take k ++ [x] := by rw [List.take_add_one, h]; rfl
theorem mem_snoc {α β : Type} (f : α → β) (A B : List α) (s : α) (v : β) : v ∈ (A ++ (B ++ [s])).map f ↔ v ∈ f s :: (A ++ B).map f := by
 simp only [List.map_append, List.map_cons, List.map_nil, List.mem_append, List.mem_cons, List.not_mem_nil, or_false]
 constructor
 ·rintro (h | h | h)
  ·exact .inr (.inl h)
  ·exact .inr (.inr h)
  ·exact .inl h
 ·rintro (h | h | h)
  ·exact .inr (.inr h)
  ·exact .inl h
  ·exact .inr (.inl h)
theorem ErrIs.yes {P : Prop} (h : P) : ErrIs P (.returned (.int .i64 0)) := ⟨0, rfl, fun _ => h, fun _ => rfl⟩
set_option maxHeartbeats 16000000 in
set_option maxRecDepth 100000 in
theorem Check_calls (q : Four) (o : ObjV) (hR : ObjR w q o) (hI : o.In) : Calls Try.prog 20 #[.agg #[.slice q.a0 o.code.length q.c0, .slice q.a1 o.data.length q.c1, .slice q.a2 o.syms.length q.c2, .slice q.a3 o.fixes.length q.c3]] w fun e w' => ErrIs (CheckOk o) e ∧ Below w.heap.size w w' := by
 have HI := Aside0.mk hI
 have HO := Aside0.mk hR
 obtain ⟨a0, c0, a1, c1, a2, c2, a3, c3⟩ := q
 obtain ⟨n0, hn0⟩ : ∃ n0, o.code.length = n0 := ⟨_, rfl⟩
 obtain ⟨n1, hn1⟩ : ∃ n1, o.data.length = n1 := ⟨_, rfl⟩
 obtain ⟨n2, hn2⟩ : ∃ n2, o.syms.length = n2 := ⟨_, rfl⟩
 obtain ⟨n3, hn3⟩ : ∃ n3, o.fixes.length = n3 := ⟨_, rfl⟩
 have B0 : n0 ≤ 140737488355328 ∧ n1 ≤ 140737488355328 ∧ n2 ≤ 140737488355328 ∧ n3 ≤ 140737488355328 := by have := hI.ncode; have := hI.ndata; have := hI.nsyms; have := hI.nfixes; omega
 rw [hn0, hn1, hn2, hn3]
 have HN0 := Aside0.mk hn0
 have HN1 := Aside0.mk hn1
 have HN2 := Aside0.mk hn2
 have HN3 := Aside0.mk hn3
 have BN := Aside0.mk B0
 clear hn0 hn1 hn2 hn3 hR hI B0
 simp only at HO ⊢
 have B1 := Aside0.mk (show Below w.heap.size w (w.alloc (.cells #[.slice a0 n0 c0, .slice a1 n1 c1, .slice a2 n2 c2, .slice a3 n3 c3] 43)) from below_alloc (Below.refl _ _) _)
 have R1 := Aside0.mk (show (w.alloc (.cells #[.slice a0 n0 c0, .slice a1 n1 c1, .slice a2 n2 c2, .slice a3 n3 c3] 43)).heap[w.heap.size]? = some (.cells #[.slice a0 n0 c0, .slice a1 n1 c1, .slice a2 n2 c2, .slice a3 n3 c3] 43 (0, 0)) from heap_at _ _ _ rfl)
 have hmm := @run_makeMap Try.prog
 go_enter Try.func20, Try.ntmps20
 go_upto_region 1 with (fail)
 generalize w.alloc (.cells #[.slice a0 n0 c0, .slice a1 n1 c1, .slice a2 n2 c2, .slice a3 n3 c3] 43) = W1 at B1 R1 ⊢
 generalize hg1 : w.heap.size = g1 at R1 ⊢
 have G1 := Aside0.mk (show w.heap.size = g1 from hg1)
 clear hg1
 have d0 := (blk_cell R1.out 0).trans rfl
 have d1 := (blk_cell R1.out 1).trans rfl
 have d2 := (blk_cell R1.out 2).trans rfl
 have d3 := (blk_cell R1.out 3).trans rfl
 have hb0 : (n0 : Int) ≤ 140737488355328 := by have := BN.out; omega
 have hb1 : (n1 : Int) ≤ 140737488355328 := by have := BN.out; omega
 have hw4 : wrap64 (4 * (n0 : Int)) = 4 * (n0 : Int) := by unfold wrap64; omega
 by_cases h0 : 1048576 < 4 * (n0 : Int)
 ·have e0 : decide (1048576 < 4 * (n0 : Int)) = true := by simpa using h0
  have NO := Aside0.mk (show ¬ CheckOk o from fun h => by have := h.ncode; rw [HN0.out] at this; omega)
  clear h0
  go_wp2_with (fail)
  go_ret
  exact ⟨ErrIs.no NO.out (by decide), B1.out⟩
 have e0 : decide (1048576 < 4 * (n0 : Int)) = false := by simpa using h0
 have HC0 := Aside0.mk h0
 clear h0
 by_cases h1 : 1048576 < (n1 : Int)
 ·have NO := Aside0.mk (show ¬ CheckOk o from fun h => by have := h.ndata; rw [HN1.out] at this; omega)
  go_wp2_with (fail)
  go_ret
  exact ⟨ErrIs.no NO.out (by decide), B1.out⟩
 have HC1 := Aside0.mk h1
 go_wp2_with (fail)
 clear e0 h1
 go_loopg [32] n0 (fun kq v32 wr => ∃ j : Nat, j + kq = n0 ∧ v32 = .int .i64 j ∧ Aside0 (Below W1.heap.size W1 wr) ∧ Aside0 (∀ (k : Nat) (v : Int), k < j → o.code[k]? = some v → (decF v).isSome = true))
 case atStart => exact ⟨0, by omega, rfl, ⟨Below.refl _ _⟩, ⟨fun k v hk => absurd hk (Nat.not_lt_zero k)⟩⟩
 case round =>
  obtain ⟨j, hj, rfl, HB, HD⟩ := hrel
  have HJ := Aside0.mk hj
  clear hj
  by_cases hlt : j < n0
  ·obtain ⟨v, hv⟩ : ∃ v, o.code[j]? = some v := ⟨_, List.getElem?_eq_getElem (by rw [HN0.out]; exact hlt)⟩
   obtain ⟨ad, hA, hc⟩ := C_at (Kd.C_below HO.out.code (pm_chain B1.out HB.out)) hv
   simp only at hA
   have hlt2 : (j : Int) < (n0 : Int) := by omega
   have HV := Aside0.mk hv
   have HLT := Aside0.mk hlt
   have HVR := Aside0.mk (HI.out.code v (List.mem_of_getElem? hv))
   subst hA
   obtain ⟨od, hod⟩ : ∃ od, decF v = od := ⟨_, rfl⟩
   have HOD := Aside0.mk hod
   clear hv hlt hod d0 d1 d2 d3 hw4
   cases od with
   | none =>
    have NO := Aside0.mk (show ¬ CheckOk o from fun h => by have := h.code j v HV.out; rw [HOD.out] at this; cases this)
    have RDC := Aside0.mk (fun W : World => decode_no W v HVR.out HOD.out)
    go_wp2_with (first | (go_at_call 25; refine (RDC.out _).mono ?_; rintro e Z1 ⟨rfl, hb7⟩; have BZ := Aside0.mk (HB.out.trans (hb7.mono HB.out.size)); clear hb7) | (refine wpList_store_row rfl 36 _ _ rfl Z1.heap.size _ rfl rfl 36 _ (heap_alloc_last Z1 _) (by as_aux_lemma => kernel_rfl) (by as_aux_lemma => kernel_rfl) (by as_aux_lemma => kernel_rfl) ?_; rw [World.setRow_alloc_new]))
    go_ret
    exact ⟨ErrIs.no NO.out (by decide), below_alloc (pm_chain B1.out BZ.out) _⟩
   | some x =>
    obtain ⟨op, ra, rb, rd, imm⟩ := x
    have RDC := fun W : World => decode_yes W v HVR.out HOD.out
    simp only [I5.enc] at RDC
    have RDC := Aside0.mk RDC
    go_wp2_with (first | (go_at_call 25; refine (RDC.out _).mono ?_; rintro e Z1 ⟨rfl, hb7⟩; have BZ := Aside0.mk (HB.out.trans (hb7.mono HB.out.size)); clear hb7) | (refine wpList_store_row rfl 36 _ _ rfl Z1.heap.size _ rfl rfl 36 _ (heap_alloc_last Z1 _) (by as_aux_lemma => kernel_rfl) (by as_aux_lemma => kernel_rfl) (by as_aux_lemma => kernel_rfl) ?_; rw [World.setRow_alloc_new]))
    go_roundg (n0 - (j + 1))
    case measure => have := HJ.out; have := HLT.out; omega
    case rel =>
     refine ⟨j + 1, by have := HJ.out; have := HLT.out; omega, by simp, ⟨below_alloc BZ.out _⟩, ⟨fun k u hk hu => ?_⟩⟩
     rcases Nat.lt_succ_iff_lt_or_eq.1 hk with h | h
     ·exact HD.out k u h hu
     ·subst h
      rw [HV.out] at hu
      injection hu with hu
      subst hu
      rw [HOD.out]; rfl
  ·obtain rfl : j = n0 := by have := HJ.out; omega
   have hlt2 : ¬ ((j : Int) < (j : Int)) := by omega
   have HCD := Aside0.mk (show ∀ (k : Nat) (v : Int), o.code[k]? = some v → (decF v).isSome = true from fun k v hv => HD.out k v (by have := (List.getElem?_eq_some_iff.1 hv).1; have := HN0.out; omega) hv)
   clear hlt d0 d1 d2 d3 hw4 HD
   have R1w := Aside0.mk (blk_below R1.out HB.out)
   go_upto_region 11 with (fail)
   have B2 := Aside0.mk (below_alloc HB.out (.map #[] 0))
   have R2 := Aside0.mk (blk_alloc R1w.out (.map #[] 0))
   have M0 := MapV.empty (P := Try.prog) (k := 9) wr
   rw [← setF_nil] at M0
   have M2 := Aside0.mk M0
   have LM := Aside0.mk (show W1.heap.size ≤ wr.heap.size from HB.out.size)
   clear M0
   generalize wr.alloc (.map #[] 0) = W2 at B2 R2 M2 ⊢
   generalize wr.heap.size = bm at M2 LM ⊢
   have d0 := (blk_cell R2.out 0).trans rfl
   have d1 := (blk_cell R2.out 1).trans rfl
   have d2 := (blk_cell R2.out 2).trans rfl
   have d3 := (blk_cell R2.out 3).trans rfl
   go_wp2_with (fail)
   clear d0 d1 d2 d3 hlt2
   go_loopg [49] n2 (fun kq v49 wr => ∃ k : Nat, k + kq = n2 ∧ v49 = .int .i64 k ∧ Aside0 (Below W1.heap.size W1 wr) ∧ Aside0 (MapV Try.prog 9 wr bm (setF ((o.syms.take k).map (fun y => Value.string y.name)))) ∧ Aside0 (∀ (i : Nat) (x : SymV), i < k → o.syms[i]? = some x → SymOk o i x))
   case atStart => exact ⟨0, by omega, rfl, B2, by simpa using M2, ⟨fun k v hk => absurd hk (Nat.not_lt_zero k)⟩⟩
   case round =>
    obtain ⟨k, hk, rfl, HB3, M3, HS⟩ := hrel
    have HK := Aside0.mk hk
    clear hk
    by_cases hlt : k < n2
    ·obtain ⟨x, hx⟩ : ∃ x, o.syms[k]? = some x := ⟨_, List.getElem?_eq_getElem (by rw [HN2.out]; exact hlt)⟩
     obtain ⟨name, data, off⟩ := x
     obtain ⟨ad, hA, y0, y1, y2⟩ := (HO.out.syms.below (pm_chain B1.out HB3.out)).at hx
     simp only at hA y0 y1 y2
     have hlt2 : (k : Int) < (n2 : Int) := by omega
     have HX := Aside0.mk hx
     have HLT := Aside0.mk hlt
     have HXI := Aside0.mk (HI.out.syms _ (List.mem_of_getElem? hx))
     have R1x := Aside0.mk (blk_below R1.out HB3.out)
     subst hA
     clear hx hlt
     go_upto_region 14 with (first | (refine wpList_store_row rfl 66 _ _ rfl wr.heap.size _ rfl rfl 66 _ (heap_alloc_last wr _) (by as_aux_lemma => kernel_rfl) (by as_aux_lemma => kernel_rfl) (by as_aux_lemma => kernel_rfl) ?_; rw [World.setRow_alloc_new]))
     have R9 := Aside0.mk (show (wr.alloc (.cells #[.string name, .bool data, .int .i64 off] 66)).heap[wr.heap.size]? = some (.cells #[.string name, .bool data, .int .i64 off] 66 (0, 0)) from heap_at _ _ _ rfl)
     have R1y := Aside0.mk (blk_alloc R1x.out (.cells #[.string name, .bool data, .int .i64 off] 66))
     have B3 := Aside0.mk (below_alloc HB3.out (.cells #[.string name, .bool data, .int .i64 off] 66))
     have M3y := Aside0.mk (M3.out.below (below_alloc (Below.refl _ _) (.cells #[.string name, .bool data, .int .i64 off] 66)))
     have G9 := Aside0.mk (show ¬ bm = wr.heap.size from fun e => by have := M3.out.lt; omega)
     generalize wr.alloc (.cells #[.string name, .bool data, .int .i64 off] 66) = W3 at R9 R1y B3 M3y ⊢
     have GW := Aside0.mk (show W1.heap.size ≤ wr.heap.size from HB3.out.size)
     generalize wr.heap.size = g9 at R9 G9 GW ⊢
     clear y0 y1 y2
     have z0 := (blk_cell R9.out 0).trans rfl
     have z1 := (blk_cell R9.out 1).trans rfl
     have z2 := (blk_cell R9.out 2).trans rfl
     have d0 := (blk_cell R1y.out 0).trans rfl
     have d1 := (blk_cell R1y.out 1).trans rfl
     have hw4 : wrap64 (4 * (j : Int)) = 4 * (j : Int) := by unfold wrap64; omega
     obtain ⟨mo, hmo⟩ : ∃ mo, mostF o ⟨name, data, off⟩ = mo := ⟨_, rfl⟩
     have HMO := Aside0.mk hmo
     have HMX := Aside0.mk (show mo = if data = true then (n1 : Int) else 4 * (j : Int) by rw [← hmo]; unfold mostF; rw [HN1.out, HN0.out])
     clear hmo
     go_upto_if 58 with (fail)
     go_cut [10] (fun v10 wc => v10 = .int .i64 mo ∧ wc = W3)
     case first =>
      cases data
      ·have hm := Aside0.mk (show 4 * (j : Int) = mo from HMX.out.symm)
       go_wp2_with (fail)
       go_meet
       exact ⟨congrArg (Value.int .i64) hm.out, rfl⟩
      ·have hm := Aside0.mk (show (n1 : Int) = mo from HMX.out.symm)
       go_wp2_with (fail)
       go_meet
       exact ⟨congrArg (Value.int .i64) hm.out, rfl⟩
     case rest =>
      obtain ⟨rfl, rfl⟩ := hcut
      clear d0 d1
      obtain ⟨kl, hkey⟩ := key9 name HXI.out.1
      obtain ⟨nm, hnm⟩ : ∃ nm, nameF name = nm := ⟨_, rfl⟩
      have HNM := Aside0.mk hnm
      clear hnm
      by_cases hin : Value.string name ∈ (o.syms.take k).map (fun y => Value.string y.name)
      ·have NO := Aside0.mk (show ¬ CheckOk o from fun h => by
        obtain ⟨y, hy, he⟩ := List.mem_map.1 hin
        exact (h.syms k _ HX.out).new y hy (string_inj he))
       have hl0 := M3y.out.look law9 Try.underlying103 zero3 hkey
       rw [setF_in hin, Option.getD_some] at hl0
       obtain ⟨ob, hput, hM4⟩ := M3y.out.put law9 Try.underlying103 hkey (.int .i64 2)
       go_upto_region 18 with (fail)
       have R9y := Aside0.mk ((setBlock_ne wc bm ob (fun e => G9.out e.symm)).trans R9.out)
       have R1z := Aside0.mk ((setBlock_ne wc bm ob (fun e => by have := LM.out; have := lt_of_at R1.out; omega)).trans R1y.out)
       have B4 := Aside0.mk (below_setBlock B3.out LM.out ob)
       have M4 := Aside0.mk hM4
       have LK := Aside0.mk (fun (W : World) (hb : Below (setBlock wc bm ob).heap.size (setBlock wc bm ob) W) => (M4.out.below hb).look law9 Try.underlying103 zero3 hkey)
       rw [upd_same, Option.getD_some] at LK
       clear hl0 hput hM4
       generalize setBlock wc bm ob = W4 at R9y R1z B4 M4 LK ⊢
       have z0 := (blk_cell R9y.out 0).trans rfl
       have z1 := (blk_cell R9y.out 1).trans rfl
       have z2 := (blk_cell R9y.out 2).trans rfl
       have CN := Aside0.mk (Name_calls (w := W4) name HXI.out.1)
       cases nm
       ·go_wp2_with (first | (go_at_call 33; refine CN.out.mono ?_; rintro e W5 ⟨rfl, hb⟩; rw [HNM.out]; have hl5 := LK.out _ hb; have B5 := Aside0.mk (B4.out.trans (hb.mono B4.out.size)); have M5 := Aside0.mk (M4.out.below hb); have R9v := Aside0.mk (blk_below R9y.out hb); clear hb; have z0 := (blk_cell R9v.out 0).trans rfl; have z1 := (blk_cell R9v.out 1).trans rfl; have z2 := (blk_cell R9v.out 2).trans rfl))
        go_ret
        exact ⟨ErrIs.no (fun h => NO.out h) (by decide), pm_chain B1.out B5.out⟩
       ·go_wp2_with (first | (go_at_call 33; refine CN.out.mono ?_; rintro e W5 ⟨rfl, hb⟩; rw [HNM.out]; have hl5 := LK.out _ hb; have B5 := Aside0.mk (B4.out.trans (hb.mono B4.out.size)); have M5 := Aside0.mk (M4.out.below hb); have R9v := Aside0.mk (blk_below R9y.out hb); clear hb; have z0 := (blk_cell R9v.out 0).trans rfl; have z1 := (blk_cell R9v.out 1).trans rfl; have z2 := (blk_cell R9v.out 2).trans rfl))
        go_ret
        exact ⟨ErrIs.no (fun h => NO.out h) (by decide), pm_chain B1.out B5.out⟩
      ·have NEW := Aside0.mk (show ∀ y ∈ o.syms.take k, y.name ≠ name from fun y hy e => hin (List.mem_map.2 ⟨y, hy, by rw [e]⟩))
       have hl0 := M3y.out.look law9 Try.underlying103 zero3 hkey
       rw [setF_out hin, Option.getD_none] at hl0
       obtain ⟨ob, hput, hM4⟩ := M3y.out.put law9 Try.underlying103 hkey (.int .i64 1)
       go_upto_region 18 with (fail)
       have R9y := Aside0.mk ((setBlock_ne wc bm ob (fun e => G9.out e.symm)).trans R9.out)
       have R1z := Aside0.mk ((setBlock_ne wc bm ob (fun e => by have := LM.out; have := lt_of_at R1.out; omega)).trans R1y.out)
       have B4 := Aside0.mk (below_setBlock B3.out LM.out ob)
       have M4 := Aside0.mk hM4
       have LK := Aside0.mk (fun (W : World) (hb : Below (setBlock wc bm ob).heap.size (setBlock wc bm ob) W) => (M4.out.below hb).look law9 Try.underlying103 zero3 hkey)
       rw [upd_same, Option.getD_some] at LK
       clear hl0 hput hM4
       generalize setBlock wc bm ob = W4 at R9y R1z B4 M4 LK ⊢
       have z0 := (blk_cell R9y.out 0).trans rfl
       have z1 := (blk_cell R9y.out 1).trans rfl
       have z2 := (blk_cell R9y.out 2).trans rfl
       have CN := Aside0.mk (Name_calls (w := W4) name HXI.out.1)
       rw [upd_setF] at M4
       cases nm
       ·go_wp2_with (first | (go_at_call 33; refine CN.out.mono ?_; rintro e W5 ⟨rfl, hb⟩; rw [HNM.out]; have hl5 := LK.out _ hb; have B5 := Aside0.mk (B4.out.trans (hb.mono B4.out.size)); have M5 := Aside0.mk (M4.out.below hb); have R9v := Aside0.mk (blk_below R9y.out hb); clear hb; have z0 := (blk_cell R9v.out 0).trans rfl; have z1 := (blk_cell R9v.out 1).trans rfl; have z2 := (blk_cell R9v.out 2).trans rfl))
        go_ret
        exact ⟨ErrIs.no (fun h => by have := (h.syms k _ HX.out).name; rw [HNM.out] at this; cases this) (by decide), pm_chain B1.out B5.out⟩
       ·by_cases h1 : off < 0
        ·have H1 := Aside0.mk h1
         go_wp2_with (first | (go_at_call 33; refine CN.out.mono ?_; rintro e W5 ⟨rfl, hb⟩; rw [HNM.out]; have hl5 := LK.out _ hb; have B5 := Aside0.mk (B4.out.trans (hb.mono B4.out.size)); have M5 := Aside0.mk (M4.out.below hb); have R9v := Aside0.mk (blk_below R9y.out hb); clear hb; have z0 := (blk_cell R9v.out 0).trans rfl; have z1 := (blk_cell R9v.out 1).trans rfl; have z2 := (blk_cell R9v.out 2).trans rfl))
         go_ret
         exact ⟨ErrIs.no (fun h => by have h7 : 0 ≤ off := (h.syms k _ HX.out).lo; have := H1.out; omega) (by decide), pm_chain B1.out B5.out⟩
        ·have h1b : 0 ≤ off := by omega
         by_cases h2 : mo < off
         ·have H2 := Aside0.mk h2
          go_wp2_with (first | (go_at_call 33; refine CN.out.mono ?_; rintro e W5 ⟨rfl, hb⟩; rw [HNM.out]; have hl5 := LK.out _ hb; have B5 := Aside0.mk (B4.out.trans (hb.mono B4.out.size)); have M5 := Aside0.mk (M4.out.below hb); have R9v := Aside0.mk (blk_below R9y.out hb); clear hb; have z0 := (blk_cell R9v.out 0).trans rfl; have z1 := (blk_cell R9v.out 1).trans rfl; have z2 := (blk_cell R9v.out 2).trans rfl))
          go_ret
          exact ⟨ErrIs.no (fun h => by have h7 : off ≤ mostF o ⟨name, data, off⟩ := (h.syms k _ HX.out).hi; rw [HMO.out] at h7; have := H2.out; omega) (by decide), pm_chain B1.out B5.out⟩
         ·have h2b : off ≤ mo := by omega
          have H12 := Aside0.mk (And.intro h1b h2b)
          cases data
          ·by_cases h3 : off % 4 = 0
           ·have e3 : (off % 4 != 0) = false := by simp [h3]
            have H3 := Aside0.mk h3
            clear h3
            go_wp2_with (first | (go_at_call 33; refine CN.out.mono ?_; rintro e W5 ⟨rfl, hb⟩; rw [HNM.out]; have hl5 := LK.out _ hb; have B5 := Aside0.mk (B4.out.trans (hb.mono B4.out.size)); have M5 := Aside0.mk (M4.out.below hb); have R9v := Aside0.mk (blk_below R9y.out hb); clear hb; have z0 := (blk_cell R9v.out 0).trans rfl; have z1 := (blk_cell R9v.out 1).trans rfl; have z2 := (blk_cell R9v.out 2).trans rfl))
            go_roundg (n2 - (k + 1))
            case measure => have := HK.out; have := HLT.out; omega
            case rel =>
             refine ⟨k + 1, by have := HK.out; have := HLT.out; omega, congrArg (Value.int .i64) (by have := BN.out; have := HLT.out; unfold wrap64; omega), B5, ⟨?_⟩, ⟨fun i y hi hy => ?_⟩⟩
             ·rw [setF_eq (M := Value.string name :: (o.syms.take k).map (fun y => Value.string y.name)) (fun v => by rw [take_next HX.out]; simp [or_comm])]
              exact M5.out
             ·rcases Nat.lt_succ_iff_lt_or_eq.1 hi with h | h
              ·exact HS.out i y h hy
              ·subst h
               rw [HX.out] at hy
               injection hy with hy
               subst hy
               exact ⟨HNM.out, NEW.out, H12.out.1, by rw [HMO.out]; exact H12.out.2, fun _ => H3.out⟩
           ·have e3 : (off % 4 != 0) = true := by simp [h3]
            have H3 := Aside0.mk h3
            clear h3
            go_wp2_with (first | (go_at_call 33; refine CN.out.mono ?_; rintro e W5 ⟨rfl, hb⟩; rw [HNM.out]; have hl5 := LK.out _ hb; have B5 := Aside0.mk (B4.out.trans (hb.mono B4.out.size)); have M5 := Aside0.mk (M4.out.below hb); have R9v := Aside0.mk (blk_below R9y.out hb); clear hb; have z0 := (blk_cell R9v.out 0).trans rfl; have z1 := (blk_cell R9v.out 1).trans rfl; have z2 := (blk_cell R9v.out 2).trans rfl))
            go_ret
            exact ⟨ErrIs.no (fun h => H3.out ((h.syms k _ HX.out).four rfl)) (by decide), pm_chain B1.out B5.out⟩
          ·go_wp2_with (first | (go_at_call 33; refine CN.out.mono ?_; rintro e W5 ⟨rfl, hb⟩; rw [HNM.out]; have hl5 := LK.out _ hb; have B5 := Aside0.mk (B4.out.trans (hb.mono B4.out.size)); have M5 := Aside0.mk (M4.out.below hb); have R9v := Aside0.mk (blk_below R9y.out hb); clear hb; have z0 := (blk_cell R9v.out 0).trans rfl; have z1 := (blk_cell R9v.out 1).trans rfl; have z2 := (blk_cell R9v.out 2).trans rfl))
           go_roundg (n2 - (k + 1))
           case measure => have := HK.out; have := HLT.out; omega
           case rel =>
            refine ⟨k + 1, by have := HK.out; have := HLT.out; omega, congrArg (Value.int .i64) (by have := BN.out; have := HLT.out; unfold wrap64; omega), B5, ⟨?_⟩, ⟨fun i y hi hy => ?_⟩⟩
            ·rw [setF_eq (M := Value.string name :: (o.syms.take k).map (fun y => Value.string y.name)) (fun v => by rw [take_next HX.out]; simp [or_comm])]
             exact M5.out
            ·rcases Nat.lt_succ_iff_lt_or_eq.1 hi with h | h
             ·exact HS.out i y h hy
             ·subst h
              rw [HX.out] at hy
              injection hy with hy
              subst hy
              exact ⟨HNM.out, NEW.out, H12.out.1, by rw [HMO.out]; exact H12.out.2, fun h => by cases h⟩
    ·obtain rfl : k = n2 := by have := HK.out; omega
     have hlt2 : ¬ ((k : Int) < (k : Int)) := by omega
     have HSA := Aside0.mk (show ∀ (i : Nat) (x : SymV), o.syms[i]? = some x → SymOk o i x from fun i x hx => HS.out i x (by have := (List.getElem?_eq_some_iff.1 hx).1; have := HN2.out; omega) hx)
     clear hlt HS M3 M2
     have R1w := Aside0.mk (blk_below R1.out HB3.out)
     go_upto_region 22 with (fail)
     have B4 := Aside0.mk (below_alloc HB3.out (.map #[] 0))
     have R4 := Aside0.mk (blk_alloc R1w.out (.map #[] 0))
     have M0 := MapV.empty (P := Try.prog) (k := 109) wr
     rw [← setF_nil] at M0
     have M4 := Aside0.mk M0
     have LM2 := Aside0.mk (show W1.heap.size ≤ wr.heap.size from HB3.out.size)
     clear M0
     generalize wr.alloc (.map #[] 0) = W4 at B4 R4 M4 ⊢
     generalize wr.heap.size = bn at M4 LM2 ⊢
     have d0 := (blk_cell R4.out 0).trans rfl
     have d1 := (blk_cell R4.out 1).trans rfl
     have d2 := (blk_cell R4.out 2).trans rfl
     have d3 := (blk_cell R4.out 3).trans rfl
     go_wp2_with (fail)
     clear d0 d1 d2 d3 hlt2
     go_loopg [105] n3 (fun kq v105 wr => ∃ i : Nat, i + kq = n3 ∧ v105 = .int .i64 i ∧ Aside0 (Below W1.heap.size W1 wr) ∧ Aside0 (MapV Try.prog 109 wr bn (setF (((o.fixes.take i).flatMap (spotsOf o)).map spotV))) ∧ Aside0 (∀ (i' : Nat) (x : FixV), i' < i → o.fixes[i']? = some x → FixOk o i' x))
     case atStart => exact ⟨0, by omega, rfl, B4, by simpa using M4, ⟨fun k v hk => absurd hk (Nat.not_lt_zero k)⟩⟩
     case round =>
      obtain ⟨i, hi, rfl, HB5, M5, HF⟩ := hrel
      have HI5 := Aside0.mk hi
      clear hi
      by_cases hlt : i < n3
      ·obtain ⟨x, hx⟩ : ∃ x, o.fixes[i]? = some x := ⟨_, List.getElem?_eq_getElem (by rw [HN3.out]; exact hlt)⟩
       have HX := Aside0.mk hx
       have HXI := Aside0.mk (HI.out.fixes _ (List.mem_of_getElem? hx))
       obtain ⟨N, hN⟩ : ∃ N, (fitsF o x).1 = N := ⟨_, rfl⟩
       obtain ⟨ok, hok⟩ : ∃ ok, (fitsF o x).2 = ok := ⟨_, rfl⟩
       have CF := fun (W : World) (h : Below w.heap.size w W) => fits_calls ⟨a0, c0, a1, c1, a2, c2, a3, c3⟩ o x (HO.out.below h) HI.out HXI.out
       simp only [HN0.out, HN1.out, HN2.out, HN3.out, hN, hok] at CF
       have HNN := Aside0.mk hN
       have HOK := Aside0.mk hok
       obtain ⟨kind, off, name, add⟩ := x
       obtain ⟨ad, hA, y0, y1, y2, y3⟩ := (HO.out.fixes.below (pm_chain B1.out HB5.out)).at hx
       simp only at hA y0 y1 y2 y3 CF
       have CF := Aside0.mk CF
       have hlt2 : (i : Int) < (n3 : Int) := by omega
       have HLT := Aside0.mk hlt
       have R1x := Aside0.mk (blk_below R1.out HB5.out)
       subst hA
       clear hx hlt hN hok
       go_upto_region 25 with (first | (refine wpList_store_row rfl 46 _ _ rfl wr.heap.size _ rfl rfl 46 _ (heap_alloc_last wr _) (by as_aux_lemma => kernel_rfl) (by as_aux_lemma => kernel_rfl) (by as_aux_lemma => kernel_rfl) ?_; rw [World.setRow_alloc_new]))
       have R13 := Aside0.mk (show (wr.alloc (.cells #[.int .i64 kind, .int .i64 off, .string name, .int .i64 add] 46)).heap[wr.heap.size]? = some (.cells #[.int .i64 kind, .int .i64 off, .string name, .int .i64 add] 46 (0, 0)) from heap_at _ _ _ rfl)
       have R1y := Aside0.mk (blk_alloc R1x.out (.cells #[.int .i64 kind, .int .i64 off, .string name, .int .i64 add] 46))
       have B6 := Aside0.mk (below_alloc HB5.out (.cells #[.int .i64 kind, .int .i64 off, .string name, .int .i64 add] 46))
       have M6 := Aside0.mk (M5.out.below (below_alloc (Below.refl _ _) (.cells #[.int .i64 kind, .int .i64 off, .string name, .int .i64 add] 46)))
       have G13 := Aside0.mk (show ¬ bn = wr.heap.size ∧ W1.heap.size ≤ wr.heap.size from ⟨fun e => by have := M5.out.lt; omega, HB5.out.size⟩)
       generalize wr.alloc (.cells #[.int .i64 kind, .int .i64 off, .string name, .int .i64 add] 46) = W6 at R13 R1y B6 M6 ⊢
       generalize wr.heap.size = g13 at R13 G13 ⊢
       clear y0 y1 y2 y3
       have z0 := (blk_cell R13.out 0).trans rfl
       have z1 := (blk_cell R13.out 1).trans rfl
       have z2 := (blk_cell R13.out 2).trans rfl
       have z3 := (blk_cell R13.out 3).trans rfl
       have d0 := (blk_cell R1y.out 0).trans rfl
       have d1 := (blk_cell R1y.out 1).trans rfl
       have d2 := (blk_cell R1y.out 2).trans rfl
       have d3 := (blk_cell R1y.out 3).trans rfl
       go_upto_region 26 with (first | (go_at_call 34; refine (CF.out _ (pm_chain B1.out B6.out)).mono ?_; rintro e W7 ⟨rfl, hb⟩; have B7 := Aside0.mk (B6.out.trans (hb.mono B6.out.size)); have M7 := Aside0.mk (M6.out.below hb); have R13y := Aside0.mk (blk_below R13.out hb); clear hb z0 z1 z2 z3 d0 d1 d2 d3))
       cases ok
       ·have NO := Aside0.mk (show ¬ CheckOk o from fun h => by have := (h.fixes i _ HX.out).fits; rw [HOK.out] at this; cases this)
        go_wp2_with (fail)
        go_ret
        exact ⟨ErrIs.no NO.out (by decide), pm_chain B1.out B7.out⟩
       ·have FO := Aside0.mk (fits_off HI.out HOK.out)
        obtain ⟨m0, rfl⟩ := Int.eq_ofNat_of_zero_le (show 0 ≤ N by have := FO.out; rw [HNN.out] at this; omega)
        go_wp2_with (fail)
        go_loopg [118] m0 (fun kq v118 wr => ∃ m : Nat, m + kq = m0 ∧ v118 = .int .i64 m ∧ Aside0 (Below W7.heap.size W7 wr ∨ True) ∧ Aside0 (Below W1.heap.size W1 wr) ∧ Aside0 (wr.heap[g13]? = some (.cells #[.int .i64 kind, .int .i64 off, .string name, .int .i64 add] 46 (0, 0))) ∧ Aside0 (MapV Try.prog 109 wr bn (setF ((((o.fixes.take i).flatMap (spotsOf o)) ++ (spotsOf o ⟨kind, off, name, add⟩).take m).map spotV))) ∧ Aside0 (∀ s ∈ (spotsOf o ⟨kind, off, name, add⟩).take m, s ∉ (o.fixes.take i).flatMap (spotsOf o)))
        case atStart => exact ⟨0, by omega, rfl, ⟨.inr trivial⟩, B7, R13y, by simpa using M7, ⟨fun s hs => by simp at hs⟩⟩
        case round =>
         obtain ⟨m, hm, rfl, _, HB8, R13w, M8, HN8⟩ := hrel
         have HM := Aside0.mk hm
         clear hm
         by_cases hlt : m < m0
         ·obtain ⟨bk, hbk⟩ : ∃ bk, (kind == 1) = bk := ⟨_, rfl⟩
          obtain ⟨p, hp⟩ : ∃ p, off + (m : Int) = p := ⟨_, rfl⟩
          have hw : wrap64 (off + (m : Int)) = p := by rw [← hp]; have h7 : 0 ≤ off ∧ off ≤ 562949953421312 ∧ _ := FO.out; have := BN.out; rw [HNN.out] at h7; unfold wrap64; omega
          have HLM := Aside0.mk hlt
          have hlt2 : (m : Int) < (m0 : Int) := by omega
          have hpr : -9223372036854775808 ≤ p ∧ p ≤ 9223372036854775807 := by have h7 : 0 ≤ off ∧ off ≤ 562949953421312 ∧ _ := FO.out; rw [HNN.out] at h7; omega
          obtain ⟨kl, hkey⟩ := key109 bk p hpr
          have HSM := Aside0.mk (show (spotsOf o ⟨kind, off, name, add⟩)[m]? = some (bk, p) by
           unfold spotsOf
           rw [List.getElem?_map, HNN.out, List.getElem?_range (by simpa using hlt)]
           simp [hbk, hp])
          have HP := Aside0.mk hp
          clear hlt hp hpr
          have z0 := (blk_cell R13w.out 0).trans rfl
          have z1 := (blk_cell R13w.out 1).trans rfl
          go_upto_region 32 with (first | (refine wpList_store_row rfl 109 _ _ rfl wr.heap.size _ rfl rfl 109 _ (heap_alloc_last wr _) (by as_aux_lemma => kernel_rfl) (by as_aux_lemma => kernel_rfl) (by as_aux_lemma => kernel_rfl) ?_; rw [World.setRow_alloc_new]))
          have R17 := Aside0.mk (show (wr.alloc (.cells #[.bool bk, .int .i64 p] 109)).heap[wr.heap.size]? = some (.cells #[.bool bk, .int .i64 p] 109 (0, 0)) from heap_at _ _ _ rfl)
          have R13x := Aside0.mk (blk_alloc R13w.out (.cells #[.bool bk, .int .i64 p] 109))
          have B9 := Aside0.mk (below_alloc HB8.out (.cells #[.bool bk, .int .i64 p] 109))
          have M9 := Aside0.mk (M8.out.below (below_alloc (Below.refl _ _) (.cells #[.bool bk, .int .i64 p] 109)))
          have G17 := Aside0.mk (show ¬ bn = wr.heap.size from fun e => by have := M8.out.lt; omega)
          clear hbk hw z0 z1
          generalize wr.alloc (.cells #[.bool bk, .int .i64 p] 109) = W9 at R17 R13x B9 M9 ⊢
          generalize wr.heap.size = g17 at R17 G17 ⊢
          have M10 := Aside0.mk (M9.out.moved (W := W9.drew) rfl)
          by_cases hin : Value.agg #[.bool bk, .int .i64 p] ∈ (((o.fixes.take i).flatMap (spotsOf o)) ++ (spotsOf o ⟨kind, off, name, add⟩).take m).map spotV
          ·
           have HINF := Aside0.mk (show (bk, p) ∈ (o.fixes.take i).flatMap (spotsOf o) by
            obtain ⟨s, hs, he⟩ := List.mem_map.1 hin
            have := spotV_inj (q := (bk, p)) he
            subst this
            rcases List.mem_append.1 hs with h | h
            ·exact h
            ·exfalso
             unfold spotsOf at h
             rw [← List.map_take] at h
             obtain ⟨q, hq, he2⟩ := List.mem_map.1 h
             have h8 := (List.mem_take_iff_getElem.1 hq)
             obtain ⟨r, hr, hrq⟩ := h8
             have h9 : off + (q : Int) = p := congrArg Prod.snd he2
             have h10 := HP.out
             rw [List.getElem_range] at hrq
             omega)
           have hl0 := M10.out.look law109 Try.underlying105 zero3 hkey
           obtain ⟨st, o1, he, hl1, hs⟩ := M10.out.entry2 law109 Try.underlying105 zero3 hkey
           obtain ⟨o2, hst, hM11⟩ := hs (.int .i64 2)
           rw [setF_in hin, Option.getD_some] at hl0 he hl1
           have hst2 : (Instr.entryStore 105 (.map (some bn)) (.int .i64 st) (.int .i64 (IntKind.i64.wrap 2))).run Try.prog (setBlock W9.drew bn o1) = .ok () (setBlock (setBlock W9.drew bn o1) bn o2) := hst
           have M11 := Aside0.mk hM11
           have R13v := Aside0.mk ((setBlock_ne (setBlock W9.drew bn o1) bn o2 (fun e => G13.out.1 e.symm)).trans ((setBlock_ne W9.drew bn o1 (fun e => G13.out.1 e.symm)).trans R13x.out))
           have R17v := Aside0.mk ((setBlock_ne (setBlock W9.drew bn o1) bn o2 (fun e => G17.out e.symm)).trans ((setBlock_ne W9.drew bn o1 (fun e => G17.out e.symm)).trans R17.out))
           have B11 := Aside0.mk (below_setBlock (below_setBlock (below_drew B9.out) LM2.out o1) LM2.out o2)
           clear hs hM11
           have q0 := (blk_cell R17.out 0).trans rfl
           have q1 := (blk_cell R17.out 1).trans rfl
           simp only [Act.put, List.setIfInBounds_toArray, List.set_cons_succ, List.set_cons_zero]
           go_cut [] (fun wc => wc = setBlock (setBlock W9.drew bn o1) bn o2)
           case first =>
            go_region
            all_goals go_wp2_with (fail)
            all_goals go_meet
            all_goals rfl
           case rest =>
            subst hcut
            have hl2 := M11.out.look law109 Try.underlying105 zero3 hkey
            rw [upd_same, Option.getD_some] at hl2
            clear hl0 he hl1 hst hst2 q0 q1
            generalize setBlock (setBlock W9.drew bn o1) bn o2 = W11 at M11 R13v R17v B11 hl2 ⊢
            have q0 := (blk_cell R17v.out 0).trans rfl
            have q1 := (blk_cell R17v.out 1).trans rfl
            go_wp2_with (fail)
            go_ret
            refine ⟨ErrIs.no (fun h => ?_) (by decide), pm_chain B1.out B11.out⟩
            exact (h.fixes i _ HX.out).new (bk, p) (List.mem_of_getElem? HSM.out) HINF.out
          ·
           have hl0 := M10.out.look law109 Try.underlying105 zero3 hkey
           obtain ⟨st, o1, he, hl1, hs⟩ := M10.out.entry2 law109 Try.underlying105 zero3 hkey
           obtain ⟨o2, hst, hM11⟩ := hs (.int .i64 1)
           rw [setF_out hin, Option.getD_none] at hl0 he hl1
           have hst2 : (Instr.entryStore 105 (.map (some bn)) (.int .i64 st) (.int .i64 (IntKind.i64.wrap 1))).run Try.prog (setBlock W9.drew bn o1) = .ok () (setBlock (setBlock W9.drew bn o1) bn o2) := hst
           have M11 := Aside0.mk hM11
           have R13v := Aside0.mk ((setBlock_ne (setBlock W9.drew bn o1) bn o2 (fun e => G13.out.1 e.symm)).trans ((setBlock_ne W9.drew bn o1 (fun e => G13.out.1 e.symm)).trans R13x.out))
           have R17v := Aside0.mk ((setBlock_ne (setBlock W9.drew bn o1) bn o2 (fun e => G17.out e.symm)).trans ((setBlock_ne W9.drew bn o1 (fun e => G17.out e.symm)).trans R17.out))
           have B11 := Aside0.mk (below_setBlock (below_setBlock (below_drew B9.out) LM2.out o1) LM2.out o2)
           clear hs hM11
           have q0 := (blk_cell R17.out 0).trans rfl
           have q1 := (blk_cell R17.out 1).trans rfl
           simp only [Act.put, List.setIfInBounds_toArray, List.set_cons_succ, List.set_cons_zero]
           go_cut [] (fun wc => wc = setBlock (setBlock W9.drew bn o1) bn o2)
           case first =>
            go_region
            all_goals go_wp2_with (fail)
            all_goals go_meet
            all_goals rfl
           case rest =>
            subst hcut
            have hl2 := M11.out.look law109 Try.underlying105 zero3 hkey
            rw [upd_same, Option.getD_some] at hl2
            clear hl0 he hl1 hst hst2 q0 q1
            generalize setBlock (setBlock W9.drew bn o1) bn o2 = W11 at M11 R13v R17v B11 hl2 ⊢
            have q0 := (blk_cell R17v.out 0).trans rfl
            have q1 := (blk_cell R17v.out 1).trans rfl
            go_wp2_with (fail)
            go_roundg (m0 - (m + 1))
            case measure => have := HM.out; have := HLM.out; omega
            case rel =>
             refine ⟨m + 1, by have := HM.out; have := HLM.out; omega, congrArg (Value.int .i64) (by have h7 : 0 ≤ off ∧ off ≤ 562949953421312 ∧ 0 ≤ (fitsF o ⟨kind, off, name, add⟩).1 ∧ (fitsF o ⟨kind, off, name, add⟩).1 ≤ 8 := FO.out; rw [HNN.out] at h7; have := HLM.out; unfold wrap64; omega), ⟨.inr trivial⟩, B11, R13v, ⟨?_⟩, ⟨fun s hs => ?_⟩⟩
             ·rw [setF_eq (M := Value.agg #[.bool bk, .int .i64 p] :: (((o.fixes.take i).flatMap (spotsOf o)) ++ (spotsOf o ⟨kind, off, name, add⟩).take m).map spotV) (fun v => by rw [take_next HSM.out]; exact mem_snoc spotV _ _ (bk, p) v), ← upd_setF]
              exact M11.out
             ·rw [take_next HSM.out] at hs
              rcases List.mem_append.1 hs with h | h
              ·exact HN8.out s h
              ·simp only [List.mem_singleton] at h
               subst h
               exact fun h => hin (List.mem_map.2 ⟨(bk, p), List.mem_append_left _ h, rfl⟩)
         ·obtain rfl : m = m0 := by have := HM.out; omega
          have hlt2 : ¬ ((m : Int) < (m : Int)) := by omega
          have HTK := Aside0.mk (show (spotsOf o ⟨kind, off, name, add⟩).take m = spotsOf o ⟨kind, off, name, add⟩ from List.take_of_length_le (by unfold spotsOf; rw [List.length_map, List.length_range, HNN.out]; simp))
          clear hlt
          go_wp2_with (fail)
          go_roundg (n3 - (i + 1))
          case measure => have := HI5.out; have := HLT.out; omega
          case rel =>
           refine ⟨i + 1, by have := HI5.out; have := HLT.out; omega, congrArg (Value.int .i64) (by have := BN.out; have := HLT.out; unfold wrap64; omega), HB8, ⟨?_⟩, ⟨fun i' y hi' hy => ?_⟩⟩
           ·rw [take_next HX.out, List.flatMap_append, List.flatMap_cons, List.flatMap_nil, List.append_nil]
            have := M8.out
            rw [HTK.out] at this
            exact this
           ·rcases Nat.lt_succ_iff_lt_or_eq.1 hi' with h | h
            ·exact HF.out i' y h hy
            ·subst h
             rw [HX.out] at hy
             injection hy with hy
             subst hy
             have := HN8.out
             rw [HTK.out] at this
             exact ⟨HOK.out, this⟩
      ·obtain rfl : i = n3 := by have := HI5.out; omega
       have hlt2 : ¬ ((i : Int) < (i : Int)) := by omega
       have HFA := Aside0.mk (show CheckOk o from ⟨by rw [HN0.out]; have := HC0.out; omega, by rw [HN1.out]; have := HC1.out; omega, HCD.out, HSA.out, fun i' x hx => HF.out i' x (by have := (List.getElem?_eq_some_iff.1 hx).1; have := HN3.out; omega) hx⟩)
       clear hlt
       go_wp2_with (fail)
       go_ret
       exact ⟨ErrIs.yes HFA.out, pm_chain B1.out HB5.out⟩
end Go.Proofs.Ytejhnlljddjicaa.Ma
namespace Go.Proofs.Ytejhnlljddjicaa.Ma
open Go.RowKit Go.Maps Go.WideMaps Go.WideElems Go.ChangeMaps Go.ChangeShapes Go.WideShapes Go.Proofs.Ytejhnlljddjicaa.PLk Go.Proofs.YtejhnlljddjicaaW.PrintWords Go.Proofs.YtejhnlljddjicaaW.PrintLast Go.Proofs.YtejhnlljddjicaaW.PrintMore Go.Proofs.Ytejhnlljddjicaa.La
set_option linter.unusedVariables false
set_option linter.unusedSimpArgs false
variable {w w' W : World}
theorem not3 (i : Nat) (hi : i < 64) : (3#64).getLsbD i = decide (i < 2) := by
 have : ∀ j : Fin 64, (3#64).getLsbD j.val = decide (j.val < 2) := by decide
 exact this ⟨i, hi⟩
theorem bv_not3 (x : BitVec 64) : x &&& ~~~3#64 = (x >>> 2) <<< 2 := by
 apply BitVec.eq_of_getLsbD_eq
 intro i hi
 rw [BitVec.getLsbD_and, BitVec.getLsbD_not, not3 i hi, BitVec.getLsbD_shiftLeft, BitVec.getLsbD_ushiftRight]
 by_cases h : i < 2
 ·simp [h]
 ·simp [h, hi, show 2 + (i - 2) = i by omega]
theorem and_not3 (n : Int) (h0 : 0 ≤ n) (h1 : n < 9223372036854775808) : Go.bits .andNot .i64 n 3 = n - n % 4 := by
 obtain ⟨a, rfl⟩ := Int.eq_ofNat_of_zero_le h0
 have ha : a < 9223372036854775808 := by omega
 show IntKind.i64.wrap (((BitVec.ofInt 64 (a : Int) &&& ~~~(BitVec.ofInt 64 3)).toNat : Nat) : Int) = _
 rw [show BitVec.ofInt 64 3 = 3#64 from rfl, bv_not3, BitVec.toNat_shiftLeft, BitVec.toNat_ushiftRight, BitVec.ofInt_natCast, BitVec.toNat_ofNat, IntKind.wrap_i64, Nat.shiftLeft_eq, Nat.shiftRight_eq_div_pow]
 rw [Nat.mod_eq_of_lt (show a < 2 ^ 64 by omega), Nat.mod_eq_of_lt (show a / 2 ^ 2 * 2 ^ 2 < 2 ^ 64 by omega)]
 omega
/-- The next multiple of 4. -/
def upF (n : Int) : Int := (n + 3) / 4 * 4
theorem up_is (n : Int) (h0 : 0 ≤ n) (h1 : n ≤ 4611686018427387904) : link_up.f n = some (upF n) := by
 unfold link_up.f upF
 congr 1
 rw [show wrap64 (n + 3) = n + 3 by unfold wrap64; omega]
 rw [and_not3 _ (by omega) (by omega)]; omega
/-- Bytes of code ahead of object j. -/
def codeN (ls : List ObjV) : Nat → Int
 | 0 => 0
 | j + 1 => codeN ls j + (match ls[j]? with | some o => 4 * (o.code.length : Int) | none => 0)
/-- Where an object's data may begin, of the end so far. -/
def e1F (e : Int) (o : ObjV) : Int := if 0 < o.data.length then upF e else e
/-- The address behind object j - 1's data. -/
def endN (ls : List ObjV) : Nat → Int
 | 0 => 4096 + codeN ls ls.length
 | j + 1 => match ls[j]? with | some o => e1F (endN ls j) o + (o.data.length : Int) | none => endN ls j
def dataN (ls : List ObjV) (j : Nat) : Int := match ls[j]? with | some o => upF (e1F (endN ls j) o) | none => 0
/-- A name's address, and whether it is one of the code. -/
def symP (ls : List ObjV) (j : Nat) (s : SymV) : Int × Bool := if s.data = true then (dataN ls j + s.off, false) else (4096 + codeN ls j + s.off, true)
def symsN (ls : List ObjV) (j : Nat) (l : List SymV) : List (ByteArray × Int × Bool) := l.map fun s => (s.name, symP ls j s)
/-- The names of the objects ahead of j. -/
def namesN (ls : List ObjV) : Nat → List (ByteArray × Int × Bool)
 | 0 => []
 | j + 1 => namesN ls j ++ (match ls[j]? with | some o => symsN ls j o.syms | none => [])
/-- What a name has. -/
def look (L : List (ByteArray × Int × Bool)) (s : ByteArray) : Option (Int × Bool) := (L.find? fun p => decide (p.1 = s)).map (·.2)
def placeV (p : Int × Bool) : Value := .agg #[.int .i64 p.1, .bool p.2]
/-- The names as a map holds them. -/
def nameM (L : List (ByteArray × Int × Bool)) (v : Value) : Option Value := match v with
 | .string s => (look L s).map placeV
 | _ => none
theorem look_snoc (L : List (ByteArray × Int × Bool)) (s t : ByteArray) (p : Int × Bool) (h : look L s = none) : look (L ++ [(s, p)]) t = if t = s then some p else look L t := by
 unfold look at h ⊢
 rw [List.find?_append]
 simp only [Option.map_eq_none_iff] at h
 by_cases e : t = s
 ·subst e
  rw [h, if_pos rfl]
  simp
 ·rw [if_neg e]
  cases hf : L.find? (fun p => decide (p.1 = t)) with
  | some q => simp
  | none => simp [show ¬ s = t from fun h => e h.symm]
theorem upd_nameM (L : List (ByteArray × Int × Bool)) (s : ByteArray) (p : Int × Bool) (h : look L s = none) : upd (nameM L) (.string s) (placeV p) = nameM (L ++ [(s, p)]) := by
 funext v
 by_cases e : v = .string s
 ·subst e
  rw [upd_same]
  simp only [nameM]
  rw [look_snoc L s s p h, if_pos rfl]
  rfl
 ·rw [upd_other _ _ e]
  cases v with
  | string t =>
   simp only [nameM]
   rw [look_snoc L s t p h, if_neg (fun h => e (by rw [h]))]
  | _ => rfl
theorem nameM_nil : nameM [] = fun _ => none := by
 funext v
 cases v <;> rfl
theorem look_none {L : List (ByteArray × Int × Bool)} {s : ByteArray} : look L s = none ↔ s ∉ L.map (·.1) := by
 unfold look
 simp only [Option.map_eq_none_iff, List.find?_eq_none, List.mem_map, decide_eq_true_eq]
 constructor
 ·rintro h ⟨p, hp, e⟩
  exact h p hp e
 ·intro h p hp e
  exact h ⟨p, hp, e⟩
/-- Objects that can be laid behind each other. -/
structure PlanOk (ls : List ObjV) : Prop where
 each : ∀ (j : Nat) (o : ObjV), ls[j]? = some o → CheckOk o
 names : ((namesN ls ls.length).map (·.1)).Nodup
theorem codeN_next {ls : List ObjV} {j : Nat} {o : ObjV} (h : ls[j]? = some o) : codeN ls (j + 1) = codeN ls j + 4 * (o.code.length : Int) := by
 show codeN ls j + _ = _
 rw [h]
theorem endN_next {ls : List ObjV} {j : Nat} {o : ObjV} (h : ls[j]? = some o) : endN ls (j + 1) = e1F (endN ls j) o + (o.data.length : Int) := by
 show (match ls[j]? with | some o => _ | none => _) = _
 rw [h]
theorem dataN_at {ls : List ObjV} {j : Nat} {o : ObjV} (h : ls[j]? = some o) : dataN ls j = upF (e1F (endN ls j) o) := by
 unfold dataN
 rw [h]
theorem namesN_next {ls : List ObjV} {j : Nat} {o : ObjV} (h : ls[j]? = some o) : namesN ls (j + 1) = namesN ls j ++ symsN ls j o.syms := by
 show namesN ls j ++ _ = _
 rw [h]
theorem codeN_pre {ls : List ObjV} : ∀ j : Nat, (∀ (i : Nat) (o : ObjV), i < j → ls[i]? = some o → CheckOk o) → 0 ≤ codeN ls j ∧ codeN ls j ≤ 1048576 * (j : Int)
 | 0, _ => ⟨Int.le_refl _, by simp [codeN]⟩
 | j + 1, hc => by
  have ih := codeN_pre j (fun i o hi h => hc i o (by omega) h)
  cases h : ls[j]? with
  | none => simp only [codeN, h]; omega
  | some o =>
   rw [codeN_next h]
   have := (hc j o (Nat.lt_succ_self _) h).ncode
   omega
theorem codeN_le {ls : List ObjV} (hc : ∀ (j : Nat) (o : ObjV), ls[j]? = some o → CheckOk o) : ∀ j : Nat, 0 ≤ codeN ls j ∧ codeN ls j ≤ 1048576 * (j : Int)
 | 0 => ⟨Int.le_refl _, by simp [codeN]⟩
 | j + 1 => by
  have ih := codeN_le hc j
  cases h : ls[j]? with
  | none => simp only [codeN, h]; omega
  | some o =>
   rw [codeN_next h]
   have := (hc j o h).ncode
   omega
theorem upF_le (n : Int) : n ≤ upF n ∧ upF n ≤ n + 3 := by unfold upF; omega
theorem e1F_le (e : Int) (o : ObjV) : e ≤ e1F e o ∧ e1F e o ≤ e + 3 := by
 unfold e1F
 split
 ·exact upF_le e
 ·omega
theorem endN_le {ls : List ObjV} (hc : ∀ (j : Nat) (o : ObjV), ls[j]? = some o → CheckOk o) : ∀ j : Nat, 4096 ≤ endN ls j ∧ endN ls j ≤ 4096 + 1048576 * (ls.length : Int) + 1048580 * (j : Int)
 | 0 => by have := codeN_le hc ls.length; simp only [endN]; omega
 | j + 1 => by
  have ih := endN_le hc j
  cases h : ls[j]? with
  | none => simp only [endN, h]; omega
  | some o =>
   rw [endN_next h]
   have := (hc j o h).ndata
   have := e1F_le (endN ls j) o
   omega
/-- The cells of where objects' pieces begin. -/
def atsCells : List (Int × Int) → List Value
 | [] => []
 | p :: r => .int .i64 p.1 :: .int .i64 p.2 :: atsCells r
theorem atsCells_append : ∀ l m : List (Int × Int), atsCells (l ++ m) = atsCells l ++ atsCells m
 | [], m => rfl
 | p :: r, m => by simp only [List.cons_append, atsCells, atsCells_append r m]
theorem atsCells_get : ∀ (l : List (Int × Int)) (j : Nat) (p : Int × Int), l[j]? = some p → (atsCells l)[j * 2]? = some (.int .i64 p.1) ∧ (atsCells l)[j * 2 + 1]? = some (.int .i64 p.2)
 | [], j, p, h => by simp at h
 | q :: r, 0, p, h => by
  simp only [List.getElem?_cons_zero, Option.some.injEq] at h
  subst h
  exact ⟨rfl, rfl⟩
 | q :: r, j + 1, p, h => by
  rw [List.getElem?_cons_succ] at h
  have ih := atsCells_get r j p h
  rw [show (j + 1) * 2 = j * 2 + 1 + 1 by omega]
  simp only [atsCells, List.getElem?_cons_succ]
  exact ih
theorem atsCells_set : ∀ (l : List (Int × Int)) (j : Nat) (a b d : Int), l[j]? = some (a, b) → (atsCells l).set (j * 2 + 1) (.int .i64 d) = atsCells (l.set j (a, d))
 | [], j, a, b, d, h => by simp at h
 | q :: r, 0, a, b, d, h => by
  simp only [List.getElem?_cons_zero, Option.some.injEq] at h
  subst h
  rfl
 | q :: r, j + 1, a, b, d, h => by
  rw [List.getElem?_cons_succ] at h
  rw [show (j + 1) * 2 + 1 = j * 2 + 1 + 1 + 1 by omega]
  simp only [atsCells, List.set_cons_succ, atsCells_set r j a b d h]
/-- A row of objects that is read. -/
structure ObjsR (w : World) (A : Option Addr) (ls : List ObjV) : Prop where
 each : ∀ (j : Nat) (o : ObjV), ls[j]? = some o → ∃ ad q, A = some ad ∧ ObjR w q o ∧ w.cell? (ad.add (j * 4)) = some (.slice q.a0 o.code.length q.c0) ∧ w.cell? ⟨(ad.add (j * 4)).block, (ad.add (j * 4)).off + 1, none⟩ = some (.slice q.a1 o.data.length q.c1) ∧ w.cell? ⟨(ad.add (j * 4)).block, (ad.add (j * 4)).off + 2, none⟩ = some (.slice q.a2 o.syms.length q.c2) ∧ w.cell? ⟨(ad.add (j * 4)).block, (ad.add (j * 4)).off + 3, none⟩ = some (.slice q.a3 o.fixes.length q.c3)
theorem ObjsR.below {A : Option Addr} {ls : List ObjV} (h : ObjsR w A ls) (k : Below w.heap.size w W) : ObjsR W A ls := ⟨fun j o hj => by
 obtain ⟨ad, q, e, hr, c0, c1, c2, c3⟩ := h.each j o hj
 exact ⟨ad, q, e, hr.below k, pw_cell_below k c0, pw_cell_below k c1, pw_cell_below k c2, pw_cell_below k c3⟩⟩
/-- A plan in the world. -/
structure PlanR (w : World) (base pb : Nat) (lv av : Value) (nb : Nat) (code over : Int) (ats : List (Int × Int)) (L : List (ByteArray × Int × Bool)) : Prop where
 head : w.heap[pb]? = some (.cells #[lv, av, .int .i64 code, .int .i64 over, .map (some nb)] 58 (0, 0))
 at_ : w.ownsRow base 61 2 av ats.length (atsCells ats)
 names : MapV Try.prog 9 w nb (nameM L)
 lo : base ≤ pb ∧ base ≤ nb
theorem PlanR.below {base pb : Nat} {lv av : Value} {nb : Nat} {code over : Int} {ats : List (Int × Int)} {L : List (ByteArray × Int × Bool)} (h : PlanR w base pb lv av nb code over ats L) (k : Below w.heap.size w W) : PlanR W base pb lv av nb code over ats L :=
 ⟨blk_below h.head k, pw_own_below h.at_ k, h.names.below k, h.lo⟩
section
variable {base pb : Nat} {lv av : Value} {nb : Nat} {code over : Int} {ats : List (Int × Int)} {L : List (ByteArray × Int × Bool)}
/-- The row of pieces is neither the plan's own nor the map. -/
theorem PlanR.far (h : PlanR w base pb lv av nb code over ats L) : some pb ≠ av.ownBlock ∧ some nb ≠ av.ownBlock ∧ pb ≠ nb := by
 obtain ⟨es, c, hm, _⟩ := h.names
 refine ⟨fun e => ?_, fun e => ?_, fun e => ?_⟩
 ·obtain ⟨cells, hc⟩ := own_typed h.at_ pb e.symm
  rw [h.head] at hc
  injection hc with hc
  injection hc with _ hc
  cases hc
 ·obtain ⟨cells, hc⟩ := own_typed h.at_ nb e.symm
  rw [hm] at hc
  cases hc
 ·subst e
  have := h.head
  rw [hm] at this
  cases this
theorem PlanR.drew (h : PlanR w base pb lv av nb code over ats L) : PlanR w.drew base pb lv av nb code over ats L := ⟨h.head, h.at_, h.names.moved rfl, h.lo⟩
/-- A number of the plan's own row is written. -/
theorem PlanR.head_set (h : PlanR w base pb lv av nb code over ats L) (i : Nat) (u : Value) {lv' : Value} {code' over' : Int}
  (he : (#[lv, av, .int .i64 code, .int .i64 over, .map (some nb)] : Array Value).setIfInBounds i u = #[lv', av, .int .i64 code', .int .i64 over', .map (some nb)]) : PlanR (w.setCell ⟨pb, i, none⟩ u) base pb lv' av nb code' over' ats L :=
 ⟨blk_put h.head i u he, own_move h.at_ (fun k hk => Below.heap_setCell w ⟨pb, i, none⟩ u k (fun e => h.far.1 (by rw [hk, e]))), h.names.moved (Below.heap_setCell w ⟨pb, i, none⟩ u nb (fun e => h.far.2.2 e.symm)), h.lo⟩
/-- The row of pieces has grown, and stands in the plan. -/
theorem PlanR.grown (h : PlanR w base pb lv av nb code over ats L) {w1 : World} (hg : w.grownBy w1 av.ownBlock) {v1 : Value} {ats' : List (Int × Int)} (h1 : w1.ownsRow base 61 2 v1 ats'.length (atsCells ats')) :
  w1.heap[pb]? = some (.cells #[lv, av, .int .i64 code, .int .i64 over, .map (some nb)] 58 (0, 0)) ∧ PlanR (w1.setCell ⟨pb, 1, none⟩ v1) base pb lv v1 nb code over ats' L := by
 have hb : w1.heap[pb]? = some (.cells #[lv, av, .int .i64 code, .int .i64 over, .map (some nb)] 58 (0, 0)) := (hg.block pb (lt_of_at h.head) h.far.1).trans h.head
 have hm : MapV Try.prog 9 w1 nb (nameM L) := h.names.moved (hg.block nb h.names.lt h.far.2.1)
 refine ⟨hb, blk_put hb 1 v1 rfl, own_move h1 (fun k hk => Below.heap_setCell w1 ⟨pb, 1, none⟩ v1 k (fun e => ?_)), hm.moved (Below.heap_setCell w1 ⟨pb, 1, none⟩ v1 nb (fun e => h.far.2.2 e.symm)), h.lo⟩
 obtain ⟨cells, hc⟩ := own_typed h1 k hk
 have e : k = pb := e
 rw [e, hb] at hc
 injection hc with hc
 injection hc with _ hc
 cases hc
/-- A name has been put. -/
theorem PlanR.named (h : PlanR w base pb lv av nb code over ats L) (o : Obj) {L' : List (ByteArray × Int × Bool)} (hm : MapV Try.prog 9 (setBlock w nb o) nb (nameM L')) : PlanR (setBlock w nb o) base pb lv av nb code over ats L' :=
 ⟨(setBlock_ne w nb o h.far.2.2).trans h.head, own_move h.at_ (fun k hk => setBlock_ne w nb o (fun e => h.far.2.1 (by rw [hk, e]))), hm, h.lo⟩
/-- The places of object j. -/
theorem PlanR.piece (h : PlanR w base pb lv av nb code over ats L) {j : Nat} {p : Int × Int} (hj : ats[j]? = some p) : ∃ g cap, av = .slice (some ⟨g, 0, none⟩) ats.length cap ∧ base ≤ g ∧ g ≠ pb ∧ g ≠ nb ∧ (∃ cur, w.heap[g]? = some (.cells cur 61 (0, 0))) ∧ w.cell? ⟨g, j * 2, none⟩ = some (.int .i64 p.1) ∧ w.cell? ⟨g, j * 2 + 1, none⟩ = some (.int .i64 p.2) := by
 have hlt := (List.getElem?_eq_some_iff.1 hj).1
 obtain ⟨g, cap, e, hb, _⟩ := h.at_.form (by omega)
 have hc := h.at_.cells (g := g) (by rw [e]; rfl)
 obtain ⟨h0, h1⟩ := atsCells_get ats j p hj
 refine ⟨g, cap, e, hb, fun e2 => h.far.1 (by rw [e, ← e2]; rfl), fun e2 => h.far.2.1 (by rw [e, ← e2]; rfl), own_typed h.at_ g (by rw [e]; rfl), ?_, ?_⟩
 ·have := hc _ _ h0
  rwa [Go.Proofs.YtejhnlljddjicaaW.PrintWords.add_plain] at this
 ·have := hc _ _ h1
  rwa [Go.Proofs.YtejhnlljddjicaaW.PrintWords.add_plain] at this
/-- Where object j's data begin is written. -/
theorem PlanR.piece_set (h : PlanR w base pb lv av nb code over ats L) {j : Nat} {a b : Int} (hj : ats[j]? = some (a, b)) {g cap : Nat} (e : av = .slice (some ⟨g, 0, none⟩) ats.length cap) (d : Int) : PlanR (w.setCell ⟨g, j * 2 + 1, none⟩ (.int .i64 d)) base pb lv av nb code over (ats.set j (a, d)) L := by
 have hs := h.at_
 rw [e] at hs
 obtain ⟨hs1, _⟩ := hs.stored (j * 2 + 1) (.int .i64 d)
 rw [atsCells_set ats j a b d hj] at hs1
 refine ⟨(Below.heap_setCell w ⟨g, j * 2 + 1, none⟩ _ pb (fun e2 => h.far.1 (by rw [e, e2]; rfl))).trans h.head, ?_, h.names.moved (Below.heap_setCell w ⟨g, j * 2 + 1, none⟩ _ nb (fun e2 => h.far.2.1 (by rw [e, e2]; rfl))), h.lo⟩
 rw [List.length_set, e]
 exact hs1
end
/-- The pieces of all objects. -/
def atsN (ls : List ObjV) (j : Nat) : List (Int × Int) := (List.range ls.length).map fun k => (4096 + codeN ls k, if k < j then dataN ls k else 0)
def codesN (ls : List ObjV) (j : Nat) : List (Int × Int) := (List.range j).map fun k => (4096 + codeN ls k, 0)
theorem codesN_next (ls : List ObjV) (j : Nat) : codesN ls (j + 1) = codesN ls j ++ [(4096 + codeN ls j, 0)] := by
 unfold codesN
 rw [List.range_succ, List.map_append]; rfl
theorem atsN_zero (ls : List ObjV) : atsN ls 0 = codesN ls ls.length := by
 unfold atsN codesN
 simp
theorem atsN_length (ls : List ObjV) (j : Nat) : (atsN ls j).length = ls.length := by unfold atsN; simp
theorem atsN_at {ls : List ObjV} {j k : Nat} (hk : k < ls.length) : (atsN ls j)[k]? = some (4096 + codeN ls k, if k < j then dataN ls k else 0) := by
 unfold atsN
 rw [List.getElem?_map, List.getElem?_range hk]; rfl
theorem atsN_next {ls : List ObjV} {j : Nat} (hj : j < ls.length) : (atsN ls j).set j (4096 + codeN ls j, dataN ls j) = atsN ls (j + 1) := by
 apply List.ext_getElem?
 intro k
 by_cases hk : k < ls.length
 ·by_cases e : j = k
  ·subst e
   rw [List.getElem?_set_self (by rw [atsN_length]; exact hj), atsN_at hk, if_pos (Nat.lt_succ_self _)]
  ·rw [List.getElem?_set_ne e, atsN_at hk, atsN_at hk]
   by_cases h2 : k < j
   ·rw [if_pos h2, if_pos (by omega)]
   ·rw [if_neg h2, if_neg (by omega)]
 ·rw [List.getElem?_eq_none (by rw [List.length_set, atsN_length]; omega), List.getElem?_eq_none (by rw [atsN_length]; omega)]
/-- How planned ends. -/
def PlanEnd (ls : List ObjV) (lv : Value) (B : Nat) (e : Ending) (w' : World) : Prop :=
 (PlanOk ls ∧ ∃ pb nb av, e = .returned (.tuple #[.pointer (some ⟨pb, 0, none⟩), .int .i64 0]) ∧ PlanR w' B pb lv av nb (codeN ls ls.length) (endN ls ls.length) (atsN ls ls.length) (namesN ls ls.length)) ∨
  (¬ PlanOk ls ∧ ∃ c : Int, e = .returned (.tuple #[.pointer none, .int .i64 c]) ∧ c ≠ 0)
end Go.Proofs.Ytejhnlljddjicaa.Ma
