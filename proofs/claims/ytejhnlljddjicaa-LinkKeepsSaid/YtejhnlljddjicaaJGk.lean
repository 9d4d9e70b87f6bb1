/- link.Link: objects laid behind each other and fixed. No condition beyond those each theorem names. And more of the kind: 1 texts in one. -/
import Derived.Test.YtejhnlljddjicaaJGj
namespace Go.Proofs.Ytejhnlljddjicaa.Ma
open Go.RowKit Go.Maps Go.WideMaps Go.WideElems Go.ChangeMaps Go.ChangeShapes Go.WideShapes Go.Proofs.Ytejhnlljddjicaa.PLk Go.Proofs.YtejhnlljddjicaaW.PrintWords Go.Proofs.YtejhnlljddjicaaW.PrintLast Go.Proofs.YtejhnlljddjicaaW.PrintMore Go.Proofs.Ytejhnlljddjicaa.La
set_option linter.unusedVariables false
set_option linter.unusedSimpArgs false
variable {w w' W : World}
theorem make_is (m : Nat) (h : (m : Int) ≤ 1048576) (W : World) : (Instr.makeSlice 23 (.int .i64 (m : Int)) (.int .i64 (m : Int))).run Try.prog W = .ok (.slice (some ⟨W.heap.size, 0, none⟩) m m) (W.alloc (.cells (bytesV (List.replicate m 0)).toArray 5)) := by
 have := run_make5 (m : Int) (by omega) (by omega) W
 rw [Int.toNat_natCast] at this
 rw [this]
 rfl
theorem grow_base {B : Nat} {w0 w w' : World} {g : Nat} (h : Below B w0 w) (k : w.grownBy w' (some g)) (hg : B ≤ g) (hl : g < w.heap.size) : Below B w0 w' :=
 h.trans ⟨k.os, k.tape, k.output, k.size, fun i hi => k.block i (by omega) (fun e => by injection e with e; omega)⟩
theorem cut_at (g n a : Nat) (h : a < n) (W : World) : (Instr.slice 23 (.slice (some ⟨g, 0, none⟩) n n) (some (.int .i64 (a : Int))) none none).run Try.prog W = .ok (.slice (some ⟨g, a, none⟩) (n - a) (n - a)) W := by
 obtain ⟨i, hi, _, hs, _⟩ := info5
 rw [cut_from (P := Try.prog) 23 5 .i64 Try.underlying23 hi 1 hs (some ⟨g, 0, none⟩) n n (a : Int) (by omega) (by omega) W]
 simp only [Int.toNat_natCast]
 rw [if_neg (by omega)]
 simp [Addr.add]
 try omega
theorem copy_data {g n : Nat} {img : List Int} (h : Img w g n img) {ad : Addr} {d : List Int} (hC : Kd.C (Kd.int .u8) w (some ad) d.length d) {a : Nat} (ha : a + d.length ≤ n) (cc : Nat) :
  (Builtin.copy_ #[23, 23] 3 #[.slice (some ⟨g, a, none⟩) (n - a) (n - a), .slice (some ad) d.length cc]).run Try.prog w = .ok (goInt d.length) (w.setRow g (bytesV (dataI img a d)).toArray) := by
 have hr := run_copy_row (P := Try.prog) w 23 23 3 5 g a (n - a) (n - a) ad d.length cc (bytesV img).toArray 5 (bytesV d) Try.underlying23 (by kernel_rfl) h.row (by show _ = min _ _; rw [Nat.min_eq_left (by omega)]; simp [bytesV]) (fun j u hj => ?_) (by have := h.len; simp [bytesV]; omega) (by intro u hu; obtain ⟨b, _, rfl⟩ := List.mem_map.1 hu; rfl)
 ·rw [hr]
  simp [bytesV, dataI]
 ·unfold bytesV at hj
  rw [List.getElem?_map] at hj
  cases hb : d[j]? with
  | none => rw [hb] at hj; cases hj
  | some b =>
   rw [hb] at hj
   simp only [Option.map_some, Option.some.injEq] at hj
   subst hj
   obtain ⟨ad', e, hc⟩ := C_at hC hb
   injection e with e
   rw [e]
   exact hc
theorem fixesI_next {ls : List ObjV} {j : Nat} {o : ObjV} {img i : List Int} {k : Nat} {x : FixV} (h : fixesI ls j o img k = some i) (hx : o.fixes[k]? = some x) : fixesI ls j o img (k + 1) = fixF ls j o x i := by
 show (fixesI ls j o img k).bind _ = _
 rw [h]
 simp only [Option.bind_some]
 rw [hx]
theorem fixN_next {ls : List ObjV} {j : Nat} {o : ObjV} {i : List Int} (h : fixN ls j = some i) (ho : ls[j]? = some o) : fixN ls (j + 1) = fixesI ls j o i o.fixes.length := by
 show (fixN ls j).bind _ = _
 rw [h]
 simp only [Option.bind_some]
 rw [ho]
theorem fixesI_none {ls : List ObjV} {j : Nat} {o : ObjV} {img : List Int} {k : Nat} (h : fixesI ls j o img k = none) : ∀ d : Nat, fixesI ls j o img (k + d) = none
 | 0 => h
 | d + 1 => by
  have ih := fixesI_none h d
  show (fixesI ls j o img (k + d)).bind _ = none
  rw [ih]; rfl
theorem fixN_none {ls : List ObjV} {j : Nat} (h : fixN ls j = none) : ∀ d : Nat, fixN ls (j + d) = none
 | 0 => h
 | d + 1 => by
  have ih := fixN_none h d
  show (fixN ls (j + d)).bind _ = none
  rw [ih]; rfl
theorem fix_fails {ls : List ObjV} {j : Nat} {o : ObjV} {img i : List Int} {k : Nat} {x : FixV} (h : fixN ls j = some img) (ho : ls[j]? = some o) (hi : fixesI ls j o img k = some i) (hx : o.fixes[k]? = some x) (hf : fixF ls j o x i = none) : fixN ls ls.length = none := by
 have h1 := (List.getElem?_eq_some_iff.1 ho).1
 have h2 := (List.getElem?_eq_some_iff.1 hx).1
 have h3 := fixesI_none ((fixesI_next hi hx).trans hf) (o.fixes.length - (k + 1))
 rw [show k + 1 + (o.fixes.length - (k + 1)) = o.fixes.length by omega] at h3
 have h4 := fixN_none ((fixN_next h ho).trans h3) (ls.length - (j + 1))
 rwa [show j + 1 + (ls.length - (j + 1)) = ls.length by omega] at h4
/-- A fix that fails, and one that does not. -/
theorem fix_no {base pb : Nat} {av : Value} {nb : Nat} {code over : Int} {A : Option Addr} {cap : Nat} {ls : List ObjV} {j : Nat} {o : ObjV} {fk fo fa : Int} {fn : ByteArray} {g N : Nat} {img : List Int} (h : FixIn w base pb (.slice A ls.length cap) av nb code over A ls j o ⟨fk, fo, fn, fa⟩ g N img) (hf : fixF ls j o ⟨fk, fo, fn, fa⟩ img = none) :
  Calls Try.prog 13 #[.pointer (some ⟨pb, 0, none⟩), .slice (some ⟨g, 0, none⟩) N N, .int .i64 j, .agg #[.int .i64 fk, .int .i64 fo, .string fn, .int .i64 fa]] w fun e w' => e = .returned (.int .i64 222) ∧ w.grownBy w' (some g) := by
 refine (fix_calls h).mono (fun e w' k => ⟨?_, k.2⟩)
 rcases k.1 with ⟨i2, h1, _⟩ | ⟨_, h2⟩
 ·rw [hf] at h1; cases h1
 ·exact h2
theorem fix_yes {base pb : Nat} {av : Value} {nb : Nat} {code over : Int} {A : Option Addr} {cap : Nat} {ls : List ObjV} {j : Nat} {o : ObjV} {fk fo fa : Int} {fn : ByteArray} {g N : Nat} {img img2 : List Int} (h : FixIn w base pb (.slice A ls.length cap) av nb code over A ls j o ⟨fk, fo, fn, fa⟩ g N img) (hf : fixF ls j o ⟨fk, fo, fn, fa⟩ img = some img2) :
  Calls Try.prog 13 #[.pointer (some ⟨pb, 0, none⟩), .slice (some ⟨g, 0, none⟩) N N, .int .i64 j, .agg #[.int .i64 fk, .int .i64 fo, .string fn, .int .i64 fa]] w fun e w' => e = .returned (.int .i64 0) ∧ Img w' g N img2 ∧ w.grownBy w' (some g) := by
 refine (fix_calls h).mono (fun e w' k => ?_)
 rcases k.1 with ⟨i2, h1, h2, h3⟩ | ⟨h1, _⟩
 ·rw [hf] at h1
  injection h1 with h1
  subst h1
  exact ⟨h2, h3, k.2⟩
 ·rw [hf] at h1; cases h1
/-- How Link ends. -/
def LinkEnd (ls : List ObjV) (start : ByteArray) (e : Ending) (w' : World) : Prop :=
 (∃ c : Int, e = .returned (.tuple #[.agg #[.slice none 0 0, .int .i64 0, .int .i64 0], .int .i64 c]) ∧ c ≠ 0 ∧ (∀ img, ¬ LinkYes ls start img) ∧ (PlanOk ls → unkN ls = true → c = 230)) ∨
  (∃ g img, LinkYes ls start img ∧ e = .returned (.tuple #[.agg #[.slice (some ⟨g, 0, none⟩) (sizeN ls) (sizeN ls), .int .i64 (codeN ls ls.length), .int .i64 (placeF (allN ls) start).1], .int .i64 0]) ∧ Img w' g (sizeN ls) img)
set_option maxHeartbeats 16000000 in
set_option maxRecDepth 100000 in
theorem link_calls (A : Option Addr) (cap : Nat) (ls : List ObjV) (hO : ObjsR w A ls) (hI : ∀ o ∈ ls, o.In) (hl : ls.length ≤ 1466015503700) (start : ByteArray) (hs : start.size ≤ 140737488355328) :
  Calls Try.prog 4 #[.slice A ls.length cap, .string start] w fun e w' => LinkEnd ls start e w' ∧ Below w.heap.size w w' := by
 have HO := Aside0.mk hO
 have HI := Aside0.mk hI
 have HL := Aside0.mk hl
 have HS := Aside0.mk hs
 have R0 := Aside0.mk (show (w.alloc (.cells #[.slice none 0 0, .int .i64 0, .int .i64 0] 25)).heap[w.heap.size]? = some (.cells #[.slice none 0 0, .int .i64 0, .int .i64 0] 25 (0, 0)) from heap_at _ _ _ rfl)
 have B1 := Aside0.mk (show Below w.heap.size w (w.alloc (.cells #[.slice none 0 0, .int .i64 0, .int .i64 0] 25)) from below_alloc (Below.refl _ _) _)
 have PC := Aside0.mk (planned_calls (w := w.alloc (.cells #[.slice none 0 0, .int .i64 0, .int .i64 0] 25)) A cap ls (hO.below B1.out) hI hl)
 obtain ⟨n, hn⟩ : ∃ n, ls.length = n := ⟨_, rfl⟩
 rw [hn] at PC
 have HN := Aside0.mk hn
 rw [hn]
 have hn2 : (n : Int) ≤ 1466015503700 := by omega
 clear hO hI hl hs hn
 go_enter Try.func4, Try.ntmps4
 go_upto_region 1 with (fail)
 have G4 := Aside0.mk (show w.heap.size < (w.alloc (.cells #[.slice none 0 0, .int .i64 0, .int .i64 0] 25)).heap.size by show _ < (w.heap.push _).size; rw [Array.size_push]; omega)
 generalize w.alloc (.cells #[.slice none 0 0, .int .i64 0, .int .i64 0] 25) = W1 at R0 B1 PC G4 ⊢
 generalize hg4 : w.heap.size = g4 at R0 G4 ⊢
 have HG4 := Aside0.mk hg4
 clear hg4
 go_upto_region 2 with (first | (go_at_call 9; refine PC.out.mono ?_; rintro e W2 ⟨hp, hb⟩; have B2 := Aside0.mk (pm_chain B1.out hb); have R4 := Aside0.mk (blk_below R0.out hb); have HB12 := Aside0.mk hb; clear hb; rcases hp with ⟨pok, pb, nb, av, rfl, hpr⟩ | ⟨pno, c, rfl, hc⟩))
 rotate_left
 ·have hcb : (c != 0) = true := by simpa using hc
  have HC0 := Aside0.mk hc
  have HNO := Aside0.mk pno
  clear hc pno
  go_wp2_with (first | (refine wpList_store_row rfl 25 _ _ rfl g4 _ rfl rfl 25 _ R4.out (by as_aux_lemma => kernel_rfl) (by as_aux_lemma => kernel_rfl) (by as_aux_lemma => kernel_rfl) ?_))
  (try simp only [Exit.inBlock, Exit.then])
  rw [setRow_same R4.out]
  refine bodyPost_ret (results_cell2 (p := 4) (q := 5) (ty := 25) rfl _ _ _ _ ⟨g4, 0, none⟩ _ _ (by rfl) (run_loadVar_row _ g4 25 25 _ (0, 0) _ R4.out Try.underlying25 (by rfl) (by kernel_rfl)) (by rfl)) rfl ?_
  exact ⟨.inl ⟨_, rfl, HC0.out, fun img h => HNO.out h.plan, fun h => absurd h HNO.out⟩, B2.out⟩
 have POK := Aside0.mk pok
 have HP := Aside0.mk hpr
 have GB := Aside0.mk (show w.heap.size ≤ W1.heap.size from B1.out.size)
 clear pok hpr
 go_wp2_with (fail)
 go_loopg [32] n (fun kq v32 wr => ∃ j : Nat, j + kq = n ∧ v32 = .int .i64 j ∧ Aside0 (Below W2.heap.size W2 wr) ∧ Aside0 (∀ (i : Nat) (o : ObjV), i < j → ls[i]? = some o → o.fixes.any (unkF (allN ls)) = false))
 case atStart => exact ⟨0, by omega, rfl, ⟨Below.refl _ _⟩, ⟨fun i o hi => absurd hi (Nat.not_lt_zero i)⟩⟩
 case round =>
  obtain ⟨j, hj, rfl, HB, HU⟩ := hrel
  have HJ := Aside0.mk hj
  clear hj
  by_cases hlt : j < n
  ·obtain ⟨o, ho⟩ : ∃ o, ls[j]? = some o := ⟨_, List.getElem?_eq_getElem (by rw [HN.out]; exact hlt)⟩
   obtain ⟨ad, q, hA, hR, x0, x1, x2, x3⟩ := HO.out.each j o ho
   have BR := Aside0.mk (pm_chain B2.out HB.out)
   have y0 := pw_cell_below BR.out x0
   have y1 := pw_cell_below BR.out x1
   have y2 := pw_cell_below BR.out x2
   have y3 := pw_cell_below BR.out x3
   clear x0 x1 x2 x3
   have hlt2 : (j : Int) < (n : Int) := by omega
   have HX := Aside0.mk ho
   have HR := Aside0.mk hR
   have HOI := Aside0.mk (HI.out o (List.mem_of_getElem? ho))
   have HLT := Aside0.mk hlt
   subst hA
   clear ho hlt hR
   go_upto_region 7 with (first | (refine wpList_store_row rfl 43 _ _ rfl wr.heap.size _ rfl rfl 43 _ (heap_alloc_last wr _) (by as_aux_lemma => kernel_rfl) (by as_aux_lemma => kernel_rfl) (by as_aux_lemma => kernel_rfl) ?_; rw [World.setRow_alloc_new]))
   have R9 := Aside0.mk (show (wr.alloc (.cells #[.slice q.a0 o.code.length q.c0, .slice q.a1 o.data.length q.c1, .slice q.a2 o.syms.length q.c2, .slice q.a3 o.fixes.length q.c3] 43)).heap[wr.heap.size]? = some (.cells #[.slice q.a0 o.code.length q.c0, .slice q.a1 o.data.length q.c1, .slice q.a2 o.syms.length q.c2, .slice q.a3 o.fixes.length q.c3] 43 (0, 0)) from heap_at _ _ _ rfl)
   have B3 := Aside0.mk (below_alloc HB.out (.cells #[.slice q.a0 o.code.length q.c0, .slice q.a1 o.data.length q.c1, .slice q.a2 o.syms.length q.c2, .slice q.a3 o.fixes.length q.c3] 43))
   generalize wr.alloc (.cells #[.slice q.a0 o.code.length q.c0, .slice q.a1 o.data.length q.c1, .slice q.a2 o.syms.length q.c2, .slice q.a3 o.fixes.length q.c3] 43) = W3 at R9 B3 ⊢
   generalize wr.heap.size = g9 at R9 ⊢
   clear y0 y1 y2 y3
   have d3 : W3.cell? ⟨g9, 3, none⟩ = some (.slice q.a3 o.fixes.length q.c3) := (blk_cell R9.out 3).trans rfl
   have FC := Aside0.mk (fcontains_calls (HP.out.below B3.out) q.a3 q.c3 o.fixes (HR.out.below (pm_chain B2.out B3.out)).fixes HOI.out.fixes HOI.out.nfixes)
   obtain ⟨ub, hub⟩ : ∃ ub, o.fixes.any (unkF (allN ls)) = ub := ⟨_, rfl⟩
   have HUB := Aside0.mk hub
   have FC2 := FC.out
   rw [show namesN ls ls.length = allN ls from rfl, hub] at FC2
   have FC3 := Aside0.mk FC2
   clear FC FC2 hub
   cases ub
   ·go_wp2_with (first | (go_at_call 10; refine FC3.out.mono ?_; rintro e W4 ⟨rfl, hb⟩; have B4 := Aside0.mk (pm_chain B3.out hb); clear hb))
    go_roundg (n - (j + 1))
    case measure => have := HJ.out; have := HLT.out; omega
    case rel =>
     refine ⟨j + 1, by have := HJ.out; have := HLT.out; omega, congrArg (Value.int .i64) (by first | (simp; done) | (have := HLT.out; unfold wrap64; omega)), B4, ⟨fun i o' hi ho' => ?_⟩⟩
     rcases Nat.lt_succ_iff_lt_or_eq.1 hi with h | h
     ·exact HU.out i o' h ho'
     ·subst h
      rw [HX.out] at ho'
      injection ho' with ho'
      subst ho'
      exact HUB.out
   ·have R4w := Aside0.mk (show W3.heap[g4]? = _ from blk_below R4.out B3.out)
    go_wp2_with (first | (go_at_call 10; refine FC3.out.mono ?_; rintro e W4 ⟨rfl, hb⟩; have B4 := Aside0.mk (pm_chain B3.out hb); have R4x := Aside0.mk (blk_below R4w.out hb); clear hb) | (refine wpList_store_row rfl 25 _ _ rfl g4 _ rfl rfl 25 _ R4x.out (by as_aux_lemma => kernel_rfl) (by as_aux_lemma => kernel_rfl) (by as_aux_lemma => kernel_rfl) ?_))
    (try simp only [Exit.inBlock, Exit.then])
    rw [setRow_same R4x.out]
    refine bodyPost_ret (results_cell2 (p := 4) (q := 5) (ty := 25) rfl _ _ _ _ ⟨g4, 0, none⟩ _ _ (by rfl) (run_loadVar_row _ g4 25 25 _ (0, 0) _ R4x.out Try.underlying25 (by rfl) (by kernel_rfl)) (by rfl)) rfl ?_
    exact ⟨.inl ⟨_, rfl, by decide, (fun img h => by have := h.known; rw [unk_at HX.out HUB.out] at this; cases this), fun _ _ => rfl⟩, pm_chain B2.out B4.out⟩
  ·obtain rfl : j = n := by have := HJ.out; omega
   have hlt2 : ¬ ((j : Int) < (j : Int)) := by omega
   have UN := Aside0.mk (unk_no (ls := ls) (fun i o ho => HU.out i o (by have := (List.getElem?_eq_some_iff.1 ho).1; have := HN.out; omega) ho))
   clear hlt HU
   go_upto_region 10 with (fail)
   have P5 := Aside0.mk (HP.out.below HB.out)
   have p4 : wr.cell? ⟨pb, 4, none⟩ = some (.map (some nb)) := (blk_cell P5.out.head 4).trans rfl
   have hlk := P5.out.look start HS.out
   rw [show namesN ls ls.length = allN ls from rfl] at hlk
   have hpw := place_where POK.out.each start
   obtain ⟨⟨pl, pc⟩, hpp⟩ : ∃ pp, placeF (allN ls) start = pp := ⟨_, rfl⟩
   rw [hpp] at hlk hpw
   simp only [placeV] at hlk hpw
   have HPP := Aside0.mk hpp
   have HPW := Aside0.mk hpw
   clear hpp hpw
   go_upto_region 11 with (first | (refine wpList_store_row rfl 54 _ _ rfl wr.heap.size _ rfl rfl 54 _ (heap_alloc_last wr _) (by as_aux_lemma => kernel_rfl) (by as_aux_lemma => kernel_rfl) (by as_aux_lemma => kernel_rfl) ?_; rw [World.setRow_alloc_new]))
   have R10 := Aside0.mk (show (wr.alloc (.cells #[.int .i64 pl, .bool pc] 54)).heap[wr.heap.size]? = some (.cells #[.int .i64 pl, .bool pc] 54 (0, 0)) from heap_at _ _ _ rfl)
   have P6 := Aside0.mk (P5.out.below (below_alloc (Below.refl _ _) (.cells #[.int .i64 pl, .bool pc] 54)))
   have B6 := Aside0.mk (below_alloc HB.out (.cells #[.int .i64 pl, .bool pc] 54))
   have R4y := Aside0.mk (blk_below R4.out B6.out)
   generalize wr.alloc (.cells #[.int .i64 pl, .bool pc] 54) = W5 at R10 P6 B6 R4y ⊢
   generalize wr.heap.size = g10 at R10 ⊢
   clear p4 hlk hlt2
   have hen := endN_le POK.out.each ls.length
   have hco := codeN_le POK.out.each ls.length
   have HEB := Aside0.mk (And.intro hen hco)
   have hll := HL.out
   obtain ⟨ov, hov⟩ : ∃ ov, endN ls ls.length = ov := ⟨_, rfl⟩
   obtain ⟨cd, hcd⟩ : ∃ cd, codeN ls ls.length = cd := ⟨_, rfl⟩
   rw [hov] at hen
   rw [hcd] at hco
   have p2 : W5.cell? ⟨pb, 2, none⟩ = some (.int .i64 cd) := by rw [← hcd]; exact (blk_cell P6.out.head 2).trans rfl
   have p3 : W5.cell? ⟨pb, 3, none⟩ = some (.int .i64 ov) := by rw [← hov]; exact (blk_cell P6.out.head 3).trans rfl
   have a0 : W5.cell? ⟨g10, 0, none⟩ = some (.int .i64 pl) := (blk_cell R10.out 0).trans rfl
   have a1 : W5.cell? ⟨g10, 1, none⟩ = some (.bool pc) := (blk_cell R10.out 1).trans rfl
   have hw7 : wrap64 (ov - 4096) = ov - 4096 := by unfold wrap64; omega
   have hw8 : IntKind.i64.wrap (4096 + cd) = 4096 + cd := IntWalk.i64_in _ (by omega)
   have HOV := Aside0.mk hov
   have HCD := Aside0.mk hcd
   clear hen hco hll hov hcd
   by_cases hbig : 1048576 < ov - 4096
   ·have HBIG := Aside0.mk hbig
    go_wp2_with (first | (refine wpList_store_row rfl 25 _ _ rfl g4 _ rfl rfl 25 _ R4y.out (by as_aux_lemma => kernel_rfl) (by as_aux_lemma => kernel_rfl) (by as_aux_lemma => kernel_rfl) ?_))
    (try simp only [Exit.inBlock, Exit.then])
    rw [setRow_same R4y.out]
    refine bodyPost_ret (results_cell2 (p := 4) (q := 5) (ty := 25) rfl _ _ _ _ ⟨g4, 0, none⟩ _ _ (by rfl) (run_loadVar_row _ g4 25 25 _ (0, 0) _ R4y.out Try.underlying25 (by rfl) (by kernel_rfl)) (by rfl)) rfl ?_
    exact ⟨.inl ⟨_, rfl, by decide, (fun img h => by have h1 := h.most; have h2 := HBIG.out; have h3 := HOV.out; omega), (fun _ h => by rw [UN.out] at h; cases h)⟩, pm_chain B2.out B6.out⟩
   have HBIG := Aside0.mk hbig
   have hbig2 : ¬ ov - 4096 > 1048576 := hbig
   go_upto_region 13 with (fail)
   clear hw7 hbig hbig2 p3
   have B7 := Aside0.mk (below_drew B6.out)
   have R4z := Aside0.mk (show W5.drew.heap[g4]? = _ from R4y.out)
   by_cases hc0 : cd = 0
   ·have hz : (cd == 0) = true := by simpa using hc0
    have HC0 := Aside0.mk hc0
    clear hc0
    refine wp_region_still_tail 20 (by kernel_rfl) (by kernel_rfl) ?_
    simp only [List.take_succ_cons, List.take_zero, List.drop_succ_cons, List.drop_zero]
    repeat (with_reducible refine wpStill_step (fun K hK => ?_); go_simp; with_reducible refine hK _ ?_; clear hK K)
    with_reducible refine wpStill_nil ?_
    change wpList _ _ _ _ _ W5.drew
    go_wp2_with (first | (refine wpList_store_row rfl 25 _ _ rfl g4 _ rfl rfl 25 _ R4z.out (by as_aux_lemma => kernel_rfl) (by as_aux_lemma => kernel_rfl) (by as_aux_lemma => kernel_rfl) ?_))
    (try simp only [Exit.inBlock, Exit.then])
    rw [setRow_same R4z.out]
    refine bodyPost_ret (results_cell2 (p := 4) (q := 5) (ty := 25) rfl _ _ _ _ ⟨g4, 0, none⟩ _ _ (by rfl) (run_loadVar_row _ g4 25 25 _ (0, 0) _ R4z.out Try.underlying25 (by rfl) (by kernel_rfl)) (by rfl)) rfl ?_
    exact ⟨.inl ⟨_, rfl, by decide, (fun img h => h.some_ (HCD.out.trans HC0.out)), (fun _ h => absurd (UN.out.symm.trans h) (by decide))⟩, pm_chain B2.out B7.out⟩
   have hz : (cd == 0) = false := by simpa using hc0
   have HC0 := Aside0.mk hc0
   clear hc0
   cases pc
   ·skip
    refine wp_region_still_tail 20 (by kernel_rfl) (by kernel_rfl) ?_
    simp only [List.take_succ_cons, List.take_zero, List.drop_succ_cons, List.drop_zero]
    repeat (with_reducible refine wpStill_step (fun K hK => ?_); go_simp; with_reducible refine hK _ ?_; clear hK K)
    with_reducible refine wpStill_nil ?_
    change wpList _ _ _ _ _ W5.drew
    go_wp2_with (first | (refine wpList_store_row rfl 25 _ _ rfl g4 _ rfl rfl 25 _ R4z.out (by as_aux_lemma => kernel_rfl) (by as_aux_lemma => kernel_rfl) (by as_aux_lemma => kernel_rfl) ?_))
    (try simp only [Exit.inBlock, Exit.then])
    rw [setRow_same R4z.out]
    refine bodyPost_ret (results_cell2 (p := 4) (q := 5) (ty := 25) rfl _ _ _ _ ⟨g4, 0, none⟩ _ _ (by rfl) (run_loadVar_row _ g4 25 25 _ (0, 0) _ R4z.out Try.underlying25 (by rfl) (by kernel_rfl)) (by rfl)) rfl ?_
    exact ⟨.inl ⟨_, rfl, by decide, (fun img h => absurd h.code (by rw [HPP.out]; simp)), (fun _ h => absurd (UN.out.symm.trans h) (by decide))⟩, pm_chain B2.out B7.out⟩
   by_cases hge : pl ≥ 4096 + cd
   ·have HGE := Aside0.mk hge
    refine wp_region_still_tail 20 (by kernel_rfl) (by kernel_rfl) ?_
    simp only [List.take_succ_cons, List.take_zero, List.drop_succ_cons, List.drop_zero]
    repeat (with_reducible refine wpStill_step (fun K hK => ?_); go_simp; with_reducible refine hK _ ?_; clear hK K)
    with_reducible refine wpStill_nil ?_
    change wpList _ _ _ _ _ W5.drew
    go_wp2_with (first | (refine wpList_store_row rfl 25 _ _ rfl g4 _ rfl rfl 25 _ R4z.out (by as_aux_lemma => kernel_rfl) (by as_aux_lemma => kernel_rfl) (by as_aux_lemma => kernel_rfl) ?_))
    (try simp only [Exit.inBlock, Exit.then])
    rw [setRow_same R4z.out]
    refine bodyPost_ret (results_cell2 (p := 4) (q := 5) (ty := 25) rfl _ _ _ _ ⟨g4, 0, none⟩ _ _ (by rfl) (run_loadVar_row _ g4 25 25 _ (0, 0) _ R4z.out Try.underlying25 (by rfl) (by kernel_rfl)) (by rfl)) rfl ?_
    exact ⟨.inl ⟨_, rfl, by decide, (fun img h => absurd h.in_ (by rw [HPP.out, HCD.out]; have := HGE.out; simp only; omega)), (fun _ h => absurd (UN.out.symm.trans h) (by decide))⟩, pm_chain B2.out B7.out⟩
   have HGE := Aside0.mk hge
   refine wp_region_still_tail 20 (by kernel_rfl) (by kernel_rfl) ?_
   simp only [List.take_succ_cons, List.take_zero, List.drop_succ_cons, List.drop_zero]
   repeat (with_reducible refine wpStill_step (fun K hK => ?_); go_simp; with_reducible refine hK _ ?_; clear hK K)
   with_reducible refine wpStill_nil ?_
   change wpList _ _ _ _ _ W5.drew
   go_upto_region 15 with (fail)
   clear hz hge p2 a0 a1 hw8
   have P8 := Aside0.mk (P6.out.below (Below.refl _ _).drew)
   have R10b := Aside0.mk (show W5.drew.heap[g10]? = _ from R10.out)
   generalize W5.drew = W6 at P8 B7 R4z R10b ⊢
   have LY := Aside0.mk (show endN ls ls.length - 4096 ≤ 1048576 ∧ codeN ls ls.length ≠ 0 ∧ (placeF (allN ls) start).2 = true ∧ (placeF (allN ls) start).1 < 4096 + codeN ls ls.length from ⟨by have := HBIG.out; have := HOV.out; omega, fun h => HC0.out (HCD.out.symm.trans h), by rw [HPP.out], by have := HGE.out; rw [HPP.out, HCD.out]; simp only; omega⟩)
   obtain ⟨m, hm⟩ : ∃ m, sizeN ls = m := ⟨_, rfl⟩
   have HM := Aside0.mk hm
   have hm3 : ov - 4096 = (m : Int) := by have := sizeN_is ls; have := HOV.out; omega
   have hm4 : (m : Int) ≤ 1048576 := by have := HBIG.out; omega
   have hw9 : wrap64 (ov - 4096) = (m : Int) := by rw [hm3]; unfold wrap64; omega
   have hmk : ∀ W, (Instr.makeSlice 23 (.int .i64 (m : Int)) (.int .i64 (m : Int))).run Try.prog W = .ok (.slice (some ⟨W.heap.size, 0, none⟩) m m) (W.alloc (.cells (bytesV (List.replicate m 0)).toArray 5)) := fun W => make_is m hm4 W
   have p3 : W6.cell? ⟨pb, 3, none⟩ = some (.int .i64 ov) := by rw [← HOV.out]; exact (blk_cell P8.out.head 3).trans rfl
   clear hm hm3
   go_upto_region 16 with (fail)
   have I0 := Aside0.mk (show Img (W6.alloc (.cells (bytesV (List.replicate m 0)).toArray 5)) W6.heap.size m (imgN ls 0) from ⟨by show _ = some (Obj.cells (bytesV (List.replicate (sizeN ls) 0)).toArray 5 (0, 0)); rw [HM.out]; exact heap_at _ _ _ rfl, (imgN_length ls 0).trans HM.out⟩)
   have BI := Aside0.mk (show Below W6.heap.size W6 (W6.alloc (.cells (bytesV (List.replicate m 0)).toArray 5)) from below_alloc (Below.refl _ _) _)
   generalize W6.alloc (.cells (bytesV (List.replicate m 0)).toArray 5) = W7 at I0 BI ⊢
   obtain ⟨gi, hgi⟩ : ∃ gi, W6.heap.size = gi := ⟨_, rfl⟩
   rw [hgi] at I0 ⊢
   have HGI := Aside0.mk hgi
   clear hgi hw9 hmk p3
   have hn3 : (j : Int) ≤ (j : Int) := Int.le_refl _
   go_wp2_with (fail)
   go_loopg [87] j (fun kq v87 wr => ∃ i : Nat, i + kq = j ∧ v87 = .int .i64 i ∧ Aside0 (Img wr gi m (imgN ls i)) ∧ Aside0 (Below W6.heap.size W6 wr))
   case atStart => exact ⟨0, by omega, rfl, I0, BI⟩
   case round =>
    obtain ⟨i, hi, rfl, HIm, HBi⟩ := hrel
    have HJ2 := Aside0.mk hi
    clear hi
    by_cases hlt : i < j
    ·obtain ⟨o, ho⟩ : ∃ o, ls[i]? = some o := ⟨_, List.getElem?_eq_getElem (by rw [HN.out]; exact hlt)⟩
     obtain ⟨ad, q, hA, hR, x0, x1, x2, x3⟩ := HO.out.each i o ho
     have BR := Aside0.mk (pm_chain (pm_chain B2.out B7.out) HBi.out)
     have y0 := pw_cell_below BR.out x0
     have y1 := pw_cell_below BR.out x1
     have y2 := pw_cell_below BR.out x2
     have y3 := pw_cell_below BR.out x3
     clear x0 x1 x2 x3
     have hlt2 : (i : Int) < (j : Int) := by omega
     have HX := Aside0.mk ho
     have HR := Aside0.mk hR
     have HOI := Aside0.mk (HI.out o (List.mem_of_getElem? ho))
     have HLT := Aside0.mk hlt
     subst hA
     clear ho hlt hR
     go_upto_region 19 with (first | (refine wpList_store_row rfl 43 _ _ rfl wr.heap.size _ rfl rfl 43 _ (heap_alloc_last wr _) (by as_aux_lemma => kernel_rfl) (by as_aux_lemma => kernel_rfl) (by as_aux_lemma => kernel_rfl) ?_; rw [World.setRow_alloc_new]))
     have R13 := Aside0.mk (show (wr.alloc (.cells #[.slice q.a0 o.code.length q.c0, .slice q.a1 o.data.length q.c1, .slice q.a2 o.syms.length q.c2, .slice q.a3 o.fixes.length q.c3] 43)).heap[wr.heap.size]? = some (.cells #[.slice q.a0 o.code.length q.c0, .slice q.a1 o.data.length q.c1, .slice q.a2 o.syms.length q.c2, .slice q.a3 o.fixes.length q.c3] 43 (0, 0)) from heap_at _ _ _ rfl)
     have B8 := Aside0.mk (below_alloc HBi.out (.cells #[.slice q.a0 o.code.length q.c0, .slice q.a1 o.data.length q.c1, .slice q.a2 o.syms.length q.c2, .slice q.a3 o.fixes.length q.c3] 43))
     have I8 := Aside0.mk (HIm.out.below (below_alloc (Below.refl _ _) (.cells #[.slice q.a0 o.code.length q.c0, .slice q.a1 o.data.length q.c1, .slice q.a2 o.syms.length q.c2, .slice q.a3 o.fixes.length q.c3] 43)))
     have N13 := Aside0.mk (show ¬ wr.heap.size = gi from fun e => by have := lt_of_at HIm.out.row; omega)
     generalize wr.alloc (.cells #[.slice q.a0 o.code.length q.c0, .slice q.a1 o.data.length q.c1, .slice q.a2 o.syms.length q.c2, .slice q.a3 o.fixes.length q.c3] 43) = W8 at R13 B8 I8 ⊢
     generalize wr.heap.size = g13 at R13 N13 ⊢
     clear y0 y1 y2 y3
     obtain ⟨lc, hlc⟩ : ∃ lc, o.code.length = lc := ⟨_, rfl⟩
     obtain ⟨qa, hqa⟩ : ∃ qa, q.a0 = qa := ⟨_, rfl⟩
     have d0 : W8.cell? ⟨g13, 0, none⟩ = some (.slice qa lc q.c0) := by rw [← hlc, ← hqa]; exact (blk_cell R13.out 0).trans rfl
     have HLC := Aside0.mk hlc
     have HQA := Aside0.mk hqa
     have hlc2 : (lc : Int) ≤ 140737488355328 := by have := HOI.out.ncode; omega
     clear hlc hqa
     go_wp2_with (fail)
     clear d0
     go_loopg [95] lc (fun kq v95 wr => ∃ k : Nat, k + kq = lc ∧ v95 = .int .i64 k ∧ Aside0 (Img wr gi m (wordsI ls i o (imgN ls i) k)) ∧ Aside0 (Below W6.heap.size W6 wr) ∧ Aside0 (wr.heap[g13]? = some (.cells #[.slice q.a0 o.code.length q.c0, .slice q.a1 o.data.length q.c1, .slice q.a2 o.syms.length q.c2, .slice q.a3 o.fixes.length q.c3] 43 (0, 0))))
     case atStart => exact ⟨0, by omega, rfl, I8, B8, R13⟩
     case round =>
      obtain ⟨k, hk, rfl, IMk, Bk, R13k⟩ := hrel
      have HK := Aside0.mk hk
      clear hk
      by_cases hlt : k < lc
      ·obtain ⟨v, hv⟩ : ∃ v, o.code[k]? = some v := ⟨_, List.getElem?_eq_getElem (by rw [HLC.out]; exact hlt)⟩
       obtain ⟨a2, hA2, hcv⟩ := C_at (HR.out.below (pm_chain (pm_chain B2.out B7.out) Bk.out)).code hv
       have hA5 := HQA.out.symm.trans hA2
       clear hA2
       subst hA5
       have hlt3 : (k : Int) < (lc : Int) := by omega
       have HV := Aside0.mk hv
       have HLK := Aside0.mk hlt
       clear hv hlt
       have hci := code_in HX.out
       rw [HLC.out, HM.out] at hci
       obtain ⟨ci, hci2⟩ : ∃ ci, codeN ls i = ci := ⟨_, rfl⟩
       rw [hci2] at hci
       have HCI := Aside0.mk hci2
       have HBD := Aside0.mk hci
       have P9 := Aside0.mk (P8.out.below Bk.out)
       have hj0 := atsN_at (ls := ls) (j := ls.length) (k := i) (by have := HLT.out; have := HN.out; omega)
       obtain ⟨ga, cpa, hav, _, _, _, _, c0, c1⟩ := P9.out.piece hj0
       rw [atsN_length, HN.out] at hav
       subst hav
       simp only at c0
       rw [hci2] at c0
       have p1 : wr.cell? ⟨pb, 1, none⟩ = some (.slice (some ⟨ga, 0, none⟩) j cpa) := (blk_cell P9.out.head 1).trans rfl
       have hw1 : wrap64 (4 * (k : Int)) = 4 * (k : Int) := by unfold wrap64; omega
       have hw2 : wrap64 (4096 + ci + 4 * (k : Int)) = 4096 + ci + 4 * (k : Int) := by unfold wrap64; omega
       have PC := Aside0.mk (put_calls (v := v) IMk.out (ci + 4 * (k : Int)).toNat (by omega) (by omega) (4096 + ci + 4 * (k : Int)) (by omega))
       clear hj0 c1 hci hci2
       go_wp2_with (first | (go_at_call 12; refine PC.out.mono ?_; rintro e W9 ⟨rfl, hi9, hg9⟩; have I9 := Aside0.mk hi9; have G9 := Aside0.mk hg9; clear hi9 hg9))
       go_roundg (lc - (k + 1))
       case measure => have := HK.out; have := HLK.out; omega
       case rel =>
        refine ⟨k + 1, by have := HK.out; have := HLK.out; omega, congrArg (Value.int .i64) (by first | (simp; done) | (have := HLK.out; unfold wrap64; omega)), ⟨?_⟩, ⟨grow_base Bk.out G9.out (by have := HGI.out; omega) (lt_of_at IMk.out.row)⟩, ⟨(G9.out.block g13 (lt_of_at R13k.out) (fun e => N13.out (by injection e))).trans R13k.out⟩⟩
        have e : wordsI ls i o (imgN ls i) (k + 1) = putI (wordsI ls i o (imgN ls i) k) (codeN ls i + 4 * (k : Int)).toNat v := by
         show (match o.code[k]? with | some v => _ | none => _) = _
         rw [HV.out]
        rw [e, HCI.out]
        exact I9.out
      ·obtain rfl : k = lc := by have := HK.out; omega
       have hlt3 : ¬ ((k : Int) < (k : Int)) := by omega
       clear hlt
       go_upto_region 24 with (fail)
       clear hlt3
       have d1 : wr.cell? ⟨g13, 1, none⟩ = some (.slice q.a1 o.data.length q.c1) := (blk_cell R13k.out 1).trans rfl
       by_cases hd : 0 < o.data.length
       ·have hdi := data_in HX.out hd
        rw [HM.out] at hdi
        obtain ⟨dn, hdn⟩ : ∃ dn, dataN ls i = dn := ⟨_, rfl⟩
        rw [hdn] at hdi
        have HDN := Aside0.mk hdn
        have HDI := Aside0.mk hdi
        have HD := Aside0.mk hd
        have hcb := codeN_nonneg (ls := ls) ls.length
        have hdl := HOI.out.ndata
        obtain ⟨a3, hA3, _⟩ := (HR.out.below (pm_chain (pm_chain B2.out B7.out) Bk.out)).data.2.2 hd
        have CD := Aside0.mk (HR.out.below (pm_chain (pm_chain B2.out B7.out) Bk.out)).data
        rw [hA3] at d1 CD
        clear hA3
        go_upto_region 25 with (fail)
        have P9 := Aside0.mk (P8.out.below Bk.out)
        have hj0 := atsN_at (ls := ls) (j := ls.length) (k := i) (by have := HLT.out; have := HN.out; omega)
        rw [if_pos (by have := HLT.out; have := HN.out; omega)] at hj0
        obtain ⟨ga, cpa, hav, _, _, _, _, c0, c1⟩ := P9.out.piece hj0
        rw [atsN_length, HN.out] at hav
        subst hav
        simp only at c1
        rw [hdn] at c1
        have p1 : wr.cell? ⟨pb, 1, none⟩ = some (.slice (some ⟨ga, 0, none⟩) j cpa) := (blk_cell P9.out.head 1).trans rfl
        obtain ⟨da, hda⟩ : ∃ da : Nat, dn - 4096 = (da : Int) := ⟨(dn - 4096).toNat, by omega⟩
        have HDA := Aside0.mk hda
        have hw1 : IntKind.i64.wrap (dn - 4096) = (da : Int) := by rw [hda]; exact IntWalk.i64_in _ (by omega)
        have hsl := cut_at gi m da (by omega)
        have hcp := copy_data (w := wr.drew) (show Img wr.drew gi m _ from ⟨IMk.out.row, IMk.out.len⟩) CD.out (a := da) (by omega) q.c1
        have hda2 : (da : Int) ≤ (m : Int) := by omega
        clear hj0 c0 hdi hdn hd hcb hdl hda
        refine wp_region_still_tail 13 (by kernel_rfl) (by kernel_rfl) ?_
        simp only [List.take_succ_cons, List.take_zero, List.drop_succ_cons, List.drop_zero]
        repeat (with_reducible refine wpStill_step (fun K hK => ?_); go_simp; with_reducible refine hK _ ?_; clear hK K)
        with_reducible refine wpStill_nil ?_
        change wpList _ _ _ _ _ wr.drew
        go_wp2_with (fail)
        go_roundg (j - (i + 1))
        case measure => have := HJ2.out; have := HLT.out; omega
        case rel =>
         refine ⟨i + 1, by have := HJ2.out; have := HLT.out; omega, congrArg (Value.int .i64) (by first | (simp; done) | (have := HLT.out; unfold wrap64; omega)), ⟨?_⟩, ⟨grow_base (below_drew Bk.out) (grow_set _) (by have := HGI.out; omega) (lt_of_at IMk.out.row)⟩⟩
         have e : imgN ls (i + 1) = dataI (wordsI ls i o (imgN ls i) k) da o.data := by
          show (match ls[i]? with | some o => pieceI ls i o (imgN ls i) | none => _) = _
          rw [HX.out]
          show pieceI ls i o (imgN ls i) = _
          unfold pieceI
          rw [if_pos HD.out, HLC.out, show (dataN ls i - 4096).toNat = da by rw [HDN.out, HDA.out]; rfl]
         rw [e]
         exact ⟨setRow_heap _ _ _ _ _ _ IMk.out.row, (dataI_length _ _ _ (by rw [IMk.out.len]; have := HDI.out; have := HDA.out; omega)).trans IMk.out.len⟩
       ·have HD := Aside0.mk hd
        go_wp2_with (fail)
        go_roundg (j - (i + 1))
        case measure => have := HJ2.out; have := HLT.out; omega
        case rel =>
         refine ⟨i + 1, by have := HJ2.out; have := HLT.out; omega, congrArg (Value.int .i64) (by first | (simp; done) | (have := HLT.out; unfold wrap64; omega)), ⟨?_⟩, Bk⟩
         have e : imgN ls (i + 1) = wordsI ls i o (imgN ls i) k := by
          show (match ls[i]? with | some o => pieceI ls i o (imgN ls i) | none => _) = _
          rw [HX.out]
          show pieceI ls i o (imgN ls i) = _
          unfold pieceI
          rw [if_neg HD.out, HLC.out]
         rw [e]
         exact IMk.out
    ·obtain rfl : i = j := by have := HJ2.out; omega
     have hlt2 : ¬ ((i : Int) < (i : Int)) := by omega
     clear hlt
     have II := HIm.out
     rw [show imgN ls i = imgN ls ls.length by rw [HN.out]] at II
     have HF0 := Aside0.mk (show fixN ls 0 = some (imgN ls ls.length) from rfl)
     have II := Aside0.mk II
     go_wp2_with (fail)
     clear hlt2
     go_loopg [136] i (fun kq v136 wr => ∃ (l : Nat) (img : List Int), l + kq = i ∧ v136 = .int .i64 l ∧ Aside0 (fixN ls l = some img) ∧ Aside0 (Img wr gi m img) ∧ Aside0 (Below W6.heap.size W6 wr))
     case atStart => exact ⟨0, _, by omega, rfl, HF0, II, HBi⟩
     case round =>
      obtain ⟨l, img, hl, rfl, HFl, IMl, Bl⟩ := hrel
      have HL3 := Aside0.mk hl
      clear hl
      by_cases hlt : l < i
      ·obtain ⟨o, ho⟩ : ∃ o, ls[l]? = some o := ⟨_, List.getElem?_eq_getElem (by rw [HN.out]; exact hlt)⟩
       obtain ⟨ad, q, hA, hR, x0, x1, x2, x3⟩ := HO.out.each l o ho
       have BR := Aside0.mk (pm_chain (pm_chain B2.out B7.out) Bl.out)
       have y0 := pw_cell_below BR.out x0
       have y1 := pw_cell_below BR.out x1
       have y2 := pw_cell_below BR.out x2
       have y3 := pw_cell_below BR.out x3
       clear x0 x1 x2 x3
       have hlt2 : (l : Int) < (i : Int) := by omega
       have HX := Aside0.mk ho
       have HR := Aside0.mk hR
       have HOI := Aside0.mk (HI.out o (List.mem_of_getElem? ho))
       have HLT := Aside0.mk hlt
       subst hA
       clear ho hlt hR
       go_upto_region 30 with (first | (refine wpList_store_row rfl 43 _ _ rfl wr.heap.size _ rfl rfl 43 _ (heap_alloc_last wr _) (by as_aux_lemma => kernel_rfl) (by as_aux_lemma => kernel_rfl) (by as_aux_lemma => kernel_rfl) ?_; rw [World.setRow_alloc_new]))
       have R13 := Aside0.mk (show (wr.alloc (.cells #[.slice q.a0 o.code.length q.c0, .slice q.a1 o.data.length q.c1, .slice q.a2 o.syms.length q.c2, .slice q.a3 o.fixes.length q.c3] 43)).heap[wr.heap.size]? = some (.cells #[.slice q.a0 o.code.length q.c0, .slice q.a1 o.data.length q.c1, .slice q.a2 o.syms.length q.c2, .slice q.a3 o.fixes.length q.c3] 43 (0, 0)) from heap_at _ _ _ rfl)
       have B8 := Aside0.mk (below_alloc Bl.out (.cells #[.slice q.a0 o.code.length q.c0, .slice q.a1 o.data.length q.c1, .slice q.a2 o.syms.length q.c2, .slice q.a3 o.fixes.length q.c3] 43))
       have I8 := Aside0.mk (IMl.out.below (below_alloc (Below.refl _ _) (.cells #[.slice q.a0 o.code.length q.c0, .slice q.a1 o.data.length q.c1, .slice q.a2 o.syms.length q.c2, .slice q.a3 o.fixes.length q.c3] 43)))
       generalize wr.alloc (.cells #[.slice q.a0 o.code.length q.c0, .slice q.a1 o.data.length q.c1, .slice q.a2 o.syms.length q.c2, .slice q.a3 o.fixes.length q.c3] 43) = W8 at R13 B8 I8 ⊢
       generalize wr.heap.size = g17 at R13 ⊢
       clear y0 y1 y2 y3
       obtain ⟨lf, hlf⟩ : ∃ lf, o.fixes.length = lf := ⟨_, rfl⟩
       obtain ⟨qa, hqa⟩ : ∃ qa, q.a3 = qa := ⟨_, rfl⟩
       have d3 : W8.cell? ⟨g17, 3, none⟩ = some (.slice qa lf q.c3) := by rw [← hlf, ← hqa]; exact (blk_cell R13.out 3).trans rfl
       have HLF := Aside0.mk hlf
       have HQA := Aside0.mk hqa
       have hlf2 : (lf : Int) ≤ 140737488355328 := by have := HOI.out.nfixes; omega
       clear hlf hqa
       go_wp2_with (fail)
       clear d3 hlt2
       go_loopg [144] lf (fun kq v144 wr => ∃ (k : Nat) (img' : List Int), k + kq = lf ∧ v144 = .int .i64 k ∧ Aside0 (fixesI ls l o img k = some img') ∧ Aside0 (Img wr gi m img') ∧ Aside0 (Below W6.heap.size W6 wr))
       case atStart => exact ⟨0, img, by omega, rfl, ⟨rfl⟩, I8, B8⟩
       case round =>
        obtain ⟨k, img', hk, rfl, HFk, IMk, Bk⟩ := hrel
        have HK := Aside0.mk hk
        clear hk
        by_cases hlt : k < lf
        ·obtain ⟨x, hx⟩ : ∃ x, o.fixes[k]? = some x := ⟨_, List.getElem?_eq_getElem (by rw [HLF.out]; exact hlt)⟩
         obtain ⟨a4, hA4, y0, y1, y2, y3⟩ := (HR.out.below (pm_chain (pm_chain B2.out B7.out) Bk.out)).fixes.at hx
         have hA5 := HQA.out.symm.trans hA4
         clear hA4
         subst hA5
         have hlt3 : (k : Int) < (lf : Int) := by omega
         have HY := Aside0.mk hx
         have HLK := Aside0.mk hlt
         clear hx hlt
         obtain ⟨fk, fo, fn, fa⟩ := x
         simp only at y0 y1 y2 y3
         go_upto_region 33 with (first | (refine wpList_store_row rfl 46 _ _ rfl wr.heap.size _ rfl rfl 46 _ (heap_alloc_last wr _) (by as_aux_lemma => kernel_rfl) (by as_aux_lemma => kernel_rfl) (by as_aux_lemma => kernel_rfl) ?_; rw [World.setRow_alloc_new]))
         have R19 := Aside0.mk (show (wr.alloc (.cells #[.int .i64 fk, .int .i64 fo, .string fn, .int .i64 fa] 46)).heap[wr.heap.size]? = some (.cells #[.int .i64 fk, .int .i64 fo, .string fn, .int .i64 fa] 46 (0, 0)) from heap_at _ _ _ rfl)
         have B9 := Aside0.mk (below_alloc Bk.out (.cells #[.int .i64 fk, .int .i64 fo, .string fn, .int .i64 fa] 46))
         have I9 := Aside0.mk (IMk.out.below (below_alloc (Below.refl _ _) (.cells #[.int .i64 fk, .int .i64 fo, .string fn, .int .i64 fa] 46)))
         generalize wr.alloc (.cells #[.int .i64 fk, .int .i64 fo, .string fn, .int .i64 fa] 46) = W9 at R19 B9 I9 ⊢
         generalize wr.heap.size = g19 at R19 ⊢
         clear y0 y1 y2 y3
         have e0 := (blk_cell R19.out 0).trans rfl
         have e1 := (blk_cell R19.out 1).trans rfl
         have e2 := (blk_cell R19.out 2).trans rfl
         have e3 := (blk_cell R19.out 3).trans rfl
         have FI : FixIn W9 W1.heap.size pb (.slice (some ad) ls.length cap) av nb (codeN ls ls.length) (endN ls ls.length) (some ad) ls l o ⟨fk, fo, fn, fa⟩ gi m img' := by
          have hci := code_in HX.out
          have hdt : 0 < o.data.length → _ := data_in HX.out
          have hpw := place_where POK.out.each fn
          have hfx := (POK.out.each l o HX.out).fixes k _ HY.out
          have hb := HOV.out
          have hbg := HBIG.out
          have hdl := dataN_at HX.out
          have he := endN_le POK.out.each l
          have hel := e1F_le (endN ls l) o
          have hup := upF_le (e1F (endN ls l) o)
          have hll := HL.out
          have hlt := HLT.out
          have hn := HN.out
          rw [HM.out] at hci hdt
          refine ⟨by rw [HN.out]; exact HN.out ▸ (P8.out.below B9.out), HO.out.below (pm_chain (pm_chain B2.out B7.out) B9.out), HX.out, HOI.out, HOI.out.fixes _ (List.mem_of_getElem? HY.out), hfx.fits, I9.out, by omega, ⟨hci.1, by omega⟩, fun hk1 => ?_, ?_, ⟨hpw.1, by have h2 := hpw.2.1; unfold allN at h2; simp only; omega⟩⟩
          ·simp only at hk1
           subst hk1
           have hfc := fits_cases hfx.fits
           simp at hfc
           have := hdt (by omega)
           have := codeN_nonneg (ls := ls) ls.length
           omega
          ·omega
         rcases Option.eq_none_or_eq_some (fixF ls l o ⟨fk, fo, fn, fa⟩ img') with hff | ⟨img2, hff⟩
         ·have FC2 := Aside0.mk (fix_no FI hff)
          have R4a := Aside0.mk (blk_below R4z.out B9.out)
          have NO := Aside0.mk (fix_fails HFl.out HX.out HFk.out HY.out hff)
          have N4 := Aside0.mk (show some g4 ≠ some gi from fun e => by injection e with e; have := lt_of_at R4z.out; have := HGI.out; omega)
          clear hff FI
          go_wp2_with (first | (go_at_call 13; refine FC2.out.mono ?_; rintro e W10 ⟨rfl, hg⟩; have R4b := Aside0.mk ((hg.block g4 (lt_of_at R4a.out) N4.out).trans R4a.out); have B10 := Aside0.mk (grow_base B9.out hg (by have := HGI.out; omega) (lt_of_at I9.out.row)); clear hg) | (refine wpList_store_row rfl 25 _ _ rfl g4 _ rfl rfl 25 _ R4b.out (by as_aux_lemma => kernel_rfl) (by as_aux_lemma => kernel_rfl) (by as_aux_lemma => kernel_rfl) ?_))
          (try simp only [Exit.inBlock, Exit.then])
          rw [setRow_same R4b.out]
          refine bodyPost_ret (results_cell2 (p := 4) (q := 5) (ty := 25) rfl _ _ _ _ ⟨g4, 0, none⟩ _ _ (by rfl) (run_loadVar_row _ g4 25 25 _ (0, 0) _ R4b.out Try.underlying25 (by rfl) (by kernel_rfl)) (by rfl)) rfl ?_
          exact ⟨.inl ⟨_, rfl, by decide, (fun img h => by have h1 := h.fixed; rw [NO.out] at h1; cases h1), (fun _ h => absurd (UN.out.symm.trans h) (by decide))⟩, pm_chain (pm_chain B2.out B7.out) B10.out⟩
         ·have FC2 := Aside0.mk (fix_yes FI hff)
          have HFF := Aside0.mk hff
          clear hff FI
          go_wp2_with (first | (go_at_call 13; refine FC2.out.mono ?_; rintro e W10 ⟨rfl, hi, hg⟩; have I10 := Aside0.mk hi; have B10 := Aside0.mk (grow_base B9.out hg (by have := HGI.out; omega) (lt_of_at I9.out.row)); clear hi hg))
          go_roundg (lf - (k + 1))
          case measure => have := HK.out; have := HLK.out; omega
          case rel => exact ⟨k + 1, img2, by have := HK.out; have := HLK.out; omega, congrArg (Value.int .i64) (by first | (simp; done) | (have := HLK.out; unfold wrap64; omega)), ⟨(fixesI_next HFk.out HY.out).trans HFF.out⟩, I10, B10⟩
        ·obtain rfl : k = lf := by have := HK.out; omega
         have hlt3 : ¬ ((k : Int) < (k : Int)) := by omega
         clear hlt
         go_wp2_with (fail)
         go_roundg (i - (l + 1))
         case measure => have := HL3.out; have := HLT.out; omega
         case rel => exact ⟨l + 1, img', by have := HL3.out; have := HLT.out; omega, congrArg (Value.int .i64) (by first | (simp; done) | (have := HLT.out; unfold wrap64; omega)), ⟨by rw [fixN_next HFl.out HX.out, HLF.out]; exact HFk.out⟩, IMk, Bk⟩
      ·obtain rfl : l = i := by have := HL3.out; omega
       have hlt2 : ¬ ((l : Int) < (l : Int)) := by omega
       clear hlt
       go_upto_region 38 with (fail)
       clear hlt2
       have R4f := blk_below R4z.out Bl.out
       have R4e := Aside0.mk (show wr.drew.heap[g4]? = _ from R4f)
       clear R4f
       have P12 := Aside0.mk (P8.out.below Bl.out)
       have p2 : wr.cell? ⟨pb, 2, none⟩ = some (.int .i64 cd) := by rw [← HCD.out]; exact (blk_cell P12.out.head 2).trans rfl
       have a0 : wr.cell? ⟨g10, 0, none⟩ = some (.int .i64 pl) := (blk_cell (blk_below R10b.out Bl.out) 0).trans rfl
       have N4 := Aside0.mk (show some gi ≠ some g4 from fun e => by injection e with e; have := lt_of_at R4z.out; have := HGI.out; omega)
       refine wp_region_still_tail 8 (by kernel_rfl) (by kernel_rfl) ?_
       simp only [List.take_succ_cons, List.take_zero, List.drop_succ_cons, List.drop_zero]
       repeat (with_reducible refine wpStill_step (fun K hK => ?_); go_simp; with_reducible refine hK _ ?_; clear hK K)
       with_reducible refine wpStill_nil ?_
       change wpList _ _ _ _ _ wr.drew
       go_wp2_with (first | (refine wpList_store_row rfl 25 _ _ rfl g4 _ rfl rfl 25 _ R4e.out (by as_aux_lemma => kernel_rfl) (by as_aux_lemma => kernel_rfl) (by as_aux_lemma => kernel_rfl) ?_))
       (try simp only [Exit.inBlock, Exit.then])
       refine bodyPost_ret (results_cell2 (p := 4) (q := 5) (ty := 25) rfl _ _ _ _ ⟨g4, 0, none⟩ _ _ (by rfl) (run_loadVar_row _ g4 25 25 _ (0, 0) _ (setRow_heap _ _ _ _ _ _ R4e.out) Try.underlying25 (by rfl) (by kernel_rfl)) (by rfl)) rfl ?_
       refine ⟨.inr ⟨gi, img, ⟨POK.out, UN.out, LY.out.1, LY.out.2.1, LY.out.2.2.1, LY.out.2.2.2, by rw [HN.out]; exact HFl.out⟩, by rw [HM.out, HCD.out, HPP.out]; rfl, ⟨?_, ?_⟩⟩, grow_base (pm_chain (pm_chain B2.out B7.out) (below_drew Bl.out)) (grow_set _) (by have := HG4.out; omega) (lt_of_at R4e.out)⟩
       ·have h1 : wr.drew.heap[gi]? = _ := IMl.out.row
        exact ((grow_set (a := wr.drew) (g := g4) _).block gi (lt_of_at h1) N4.out).trans h1
       ·rw [HM.out]; exact IMl.out.len
end Go.Proofs.Ytejhnlljddjicaa.Ma
