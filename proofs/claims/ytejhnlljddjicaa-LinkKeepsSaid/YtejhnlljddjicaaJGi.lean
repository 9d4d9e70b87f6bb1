/- link.planned: objects laid behind each other. No condition beyond those each theorem names. And more of the kind: 1 texts in one. -/
import Derived.Test.YtejhnlljddjicaaJGh
import Derived.Deep.RegionLaw
import Derived.RegionTactic
import Derived.BigRegion
namespace Go.Proofs.Ytejhnlljddjicaa.Ma
open Go.RowKit Go.Maps Go.WideMaps Go.WideElems Go.ChangeMaps Go.ChangeShapes Go.WideShapes Go.Proofs.Ytejhnlljddjicaa.PLk Go.Proofs.YtejhnlljddjicaaW.PrintWords Go.Proofs.YtejhnlljddjicaaW.PrintLast Go.Proofs.YtejhnlljddjicaaW.PrintMore Go.Proofs.Ytejhnlljddjicaa.La
set_option linter.unusedVariables false
set_option linter.unusedSimpArgs false
variable {w w' W : World}
theorem codes_own {base : Nat} {v : Value} {ls : List ObjV} {j : Nat} (h : w.ownsRow base 61 2 v ((codesN ls j).length + 1) (atsCells (codesN ls j) ++ [.int .i64 (4096 + codeN ls j), .int .i64 0])) : w.ownsRow base 61 2 v (codesN ls (j + 1)).length (atsCells (codesN ls (j + 1))) := by
 rw [codesN_next, atsCells_append, List.length_append]
 exact h
theorem own_far {base n size g : Nat} {v : Value} {xs : List Value} {cs : Array Value} (h : w.ownsRow base 61 size v n xs) {t : TypeId} (hg : w.heap[g]? = some (.cells cs t (0, 0))) (ht : t ≠ 61) : some g ≠ v.ownBlock := by
 intro e
 obtain ⟨c, hc⟩ := own_typed h g e.symm
 rw [hg] at hc
 injection hc with hc
 injection hc with _ hc
 exact ht hc
theorem own_ne_rows {g p : Nat} {a b : Array Value} (hg : w.heap[g]? = some (.cells a 43 (0, 0))) (hp : w.heap[p]? = some (.cells b 58 (0, 0))) : ¬ g = p := by
 intro e
 subst e
 rw [hg] at hp
 injection hp with hp
 injection hp with _ hp
 cases hp
theorem ne_ty {g p : Nat} {a b : Array Value} {s t : TypeId} (hg : w.heap[g]? = some (.cells a s (0, 0))) (hp : w.heap[p]? = some (.cells b t (0, 0))) (h : s ≠ t) : ¬ g = p := by
 intro e
 subst e
 rw [hg] at hp
 injection hp with hp
 injection hp with _ hp
 exact h hp
theorem namesN_pre (ls : List ObjV) (i : Nat) : ∀ d : Nat, ∃ r, namesN ls (i + d) = namesN ls i ++ r
 | 0 => ⟨[], by simp⟩
 | d + 1 => by
  obtain ⟨r, hr⟩ := namesN_pre ls i d
  refine ⟨r ++ (match ls[i + d]? with | some o => symsN ls (i + d) o.syms | none => []), ?_⟩
  rw [show i + (d + 1) = (i + d) + 1 from rfl]
  show namesN ls (i + d) ++ _ = _
  rw [hr, List.append_assoc]
  rfl
theorem names_next {ls : List ObjV} {i k : Nat} {o : ObjV} {y : SymV} (hy : o.syms[k]? = some y) : namesN ls i ++ symsN ls i (o.syms.take (k + 1)) = (namesN ls i ++ symsN ls i (o.syms.take k)) ++ [(y.name, symP ls i y)] := by
 rw [List.take_add_one, hy]
 simp [symsN, List.append_assoc]
theorem names_new {L : List (ByteArray × Int × Bool)} {s : ByteArray} {p : Int × Bool} (h : (L.map (·.1)).Nodup) (hn : s ∉ L.map (·.1)) : ((L ++ [(s, p)]).map (·.1)).Nodup := by
 rw [List.map_append, List.nodup_append]
 refine ⟨h, by simp, fun a ha b hb e => ?_⟩
 simp only [List.map_cons, List.map_nil, List.mem_singleton] at hb
 subst hb
 subst e
 exact hn ha
theorem names_dup {ls : List ObjV} {i k : Nat} {o : ObjV} {y : SymV} (hx : ls[i]? = some o) (hy : o.syms[k]? = some y) (hin : y.name ∈ (namesN ls i ++ symsN ls i (o.syms.take k)).map (·.1)) : ¬ PlanOk ls := by
 intro h
 have hlt := (List.getElem?_eq_some_iff.1 hx).1
 obtain ⟨r, hr⟩ := namesN_pre ls (i + 1) (ls.length - (i + 1))
 have hn := h.names
 rw [show ls.length = i + 1 + (ls.length - (i + 1)) by omega, hr, namesN_next hx] at hn
 have hk : o.syms = o.syms.take (k + 1) ++ o.syms.drop (k + 1) := (List.take_append_drop _ _).symm
 rw [show symsN ls i o.syms = symsN ls i (o.syms.take (k + 1)) ++ symsN ls i (o.syms.drop (k + 1)) by unfold symsN; rw [← List.map_append, ← hk], ← List.append_assoc, names_next hy, List.append_assoc, List.append_assoc, List.map_append, List.nodup_append] at hn
 exact hn.2.2 _ hin y.name (by simp) rfl
theorem map_ne {P : Program} {k : TypeId} {b g : Nat} {f : Value → Option Value} (h : MapV P k w b f) {cs : Array Value} {t : TypeId} (hg : w.heap[g]? = some (.cells cs t (0, 0))) : g ≠ b := by
 obtain ⟨es, c, hm, _⟩ := h
 intro e
 rw [e, hm] at hg
 cases hg
theorem up_still (n : Int) (w : World) (h0 : 0 ≤ n) (h1 : n ≤ 4611686018427387904) : Calls Try.prog 21 #[.int .i64 n] w fun e w' => e = .returned (.int .i64 (upF n)) ∧ w' = w := by
 have H := up_is n h0 h1
 unfold link_up.f at H
 have H := Option.some.inj H
 go_enter Try.func21, Try.ntmps21
 go_wp2
 go_ret
 exact ⟨by rw [← H, show wrap64 (n + 3) = n + 3 by unfold wrap64; omega]; rfl, rfl⟩
theorem inf61 : (Try.prog.info? 61).map (fun i => (i.zero, i.size, i.bytes)) = some (some (.agg #[.int .i64 0, .int .i64 0]), 2, 16) := by kernel_rfl
set_option maxHeartbeats 16000000 in
set_option maxRecDepth 100000 in
theorem planned_calls (A : Option Addr) (cap : Nat) (ls : List ObjV) (hO : ObjsR w A ls) (hI : ∀ o ∈ ls, o.In) (hl : ls.length ≤ 1466015503700) :
  Calls Try.prog 9 #[.slice A ls.length cap] w fun e w' => PlanEnd ls (.slice A ls.length cap) w.heap.size e w' ∧ Below w.heap.size w w' := by
 have HO := Aside0.mk hO
 have HI := Aside0.mk hI
 have HL := Aside0.mk hl
 obtain ⟨n, hn⟩ : ∃ n, ls.length = n := ⟨_, rfl⟩
 rw [hn]
 have HN := Aside0.mk hn
 have hn2 : (n : Int) ≤ 1466015503700 := by omega
 clear hO hI hl hn
 have hmm := @run_makeMap Try.prog
 have R0 := Aside0.mk (show ((w.alloc (.map #[] 0)).alloc (.cells #[.slice A n cap, .slice none 0 0, .int .i64 0, .int .i64 0, .map (some w.heap.size)] 58)).heap[w.heap.size + 1]? = some (.cells #[.slice A n cap, .slice none 0 0, .int .i64 0, .int .i64 0, .map (some w.heap.size)] 58 (0, 0)) from heap_at _ _ _ (by simp))
 have BB := Aside0.mk (show Below w.heap.size w ((w.alloc (.map #[] 0)).alloc (.cells #[.slice A n cap, .slice none 0 0, .int .i64 0, .int .i64 0, .map (some w.heap.size)] 58)) from below_alloc (below_alloc (Below.refl _ _) _) _)
 have M0 := (MapV.empty (P := Try.prog) (k := 9) w).below (below_alloc (Below.refl _ _) (.cells #[.slice A n cap, .slice none 0 0, .int .i64 0, .int .i64 0, .map (some w.heap.size)] 58))
 rw [← nameM_nil] at M0
 have P0 := Aside0.mk (show PlanR ((w.alloc (.map #[] 0)).alloc (.cells #[.slice A n cap, .slice none 0 0, .int .i64 0, .int .i64 0, .map (some w.heap.size)] 58)) w.heap.size (w.heap.size + 1) (.slice A n cap) (.slice none 0 0) w.heap.size 0 0 [] [] from ⟨R0.out, ⟨by simp [atsCells], .inl ⟨rfl, rfl⟩⟩, M0, by omega, by omega⟩)
 clear M0
 go_enter Try.func9, Try.ntmps9
 go_upto_region 2 with (fail)
 generalize (w.alloc (.map #[] 0)).alloc (.cells #[.slice A n cap, .slice none 0 0, .int .i64 0, .int .i64 0, .map (some w.heap.size)] 58) = W1 at R0 BB P0 ⊢
 generalize hgm : w.heap.size + 1 = pb at R0 P0 ⊢
 clear hgm R0
 go_wp2_with (fail)
 go_loopg [20] n (fun kq v20 wr => ∃ (j : Nat) (av : Value), j + kq = n ∧ v20 = .int .i64 j ∧ Aside0 (PlanR wr w.heap.size pb (.slice A n cap) av w.heap.size (codeN ls j) 0 (codesN ls j) []) ∧ Aside0 (Below w.heap.size w wr) ∧ Aside0 (∀ (i : Nat) (o : ObjV), i < j → ls[i]? = some o → CheckOk o))
 case atStart => exact ⟨0, _, by omega, rfl, P0, BB, ⟨fun i o hi => absurd hi (Nat.not_lt_zero i)⟩⟩
 case round =>
  obtain ⟨j, av, hj, rfl, HP, HB, HC⟩ := hrel
  have HJ := Aside0.mk hj
  clear hj
  by_cases hlt : j < n
  ·obtain ⟨o, ho⟩ : ∃ o, ls[j]? = some o := ⟨_, List.getElem?_eq_getElem (by rw [HN.out]; exact hlt)⟩
   obtain ⟨ad, q, hA, hR, y0, y1, y2, y3⟩ := (HO.out.below HB.out).each j o ho
   have hlt2 : (j : Int) < (n : Int) := by omega
   have HX := Aside0.mk ho
   have HR := Aside0.mk hR
   have HOI := Aside0.mk (HI.out o (List.mem_of_getElem? ho))
   have HLT := Aside0.mk hlt
   subst hA
   clear ho hlt hR
   go_upto_region 5 with (first | (refine wpList_store_row rfl 43 _ _ rfl wr.heap.size _ rfl rfl 43 _ (heap_alloc_last wr _) (by as_aux_lemma => kernel_rfl) (by as_aux_lemma => kernel_rfl) (by as_aux_lemma => kernel_rfl) ?_; rw [World.setRow_alloc_new]))
   have R6 := Aside0.mk (show (wr.alloc (.cells #[.slice q.a0 o.code.length q.c0, .slice q.a1 o.data.length q.c1, .slice q.a2 o.syms.length q.c2, .slice q.a3 o.fixes.length q.c3] 43)).heap[wr.heap.size]? = some (.cells #[.slice q.a0 o.code.length q.c0, .slice q.a1 o.data.length q.c1, .slice q.a2 o.syms.length q.c2, .slice q.a3 o.fixes.length q.c3] 43 (0, 0)) from heap_at _ _ _ rfl)
   have B3 := Aside0.mk (below_alloc HB.out (.cells #[.slice q.a0 o.code.length q.c0, .slice q.a1 o.data.length q.c1, .slice q.a2 o.syms.length q.c2, .slice q.a3 o.fixes.length q.c3] 43))
   have P3 := Aside0.mk (HP.out.below (below_alloc (Below.refl _ _) (.cells #[.slice q.a0 o.code.length q.c0, .slice q.a1 o.data.length q.c1, .slice q.a2 o.syms.length q.c2, .slice q.a3 o.fixes.length q.c3] 43)))
   have CK := Aside0.mk (Check_calls (w := wr.alloc (.cells #[.slice q.a0 o.code.length q.c0, .slice q.a1 o.data.length q.c1, .slice q.a2 o.syms.length q.c2, .slice q.a3 o.fixes.length q.c3] 43)) q o (HR.out.below (below_alloc (Below.refl _ _) (.cells #[.slice q.a0 o.code.length q.c0, .slice q.a1 o.data.length q.c1, .slice q.a2 o.syms.length q.c2, .slice q.a3 o.fixes.length q.c3] 43))) HOI.out)
   have G6 := Aside0.mk (show w.heap.size ≤ wr.heap.size from HB.out.size)
   generalize wr.alloc (.cells #[.slice q.a0 o.code.length q.c0, .slice q.a1 o.data.length q.c1, .slice q.a2 o.syms.length q.c2, .slice q.a3 o.fixes.length q.c3] 43) = W3 at R6 B3 P3 CK ⊢
   generalize wr.heap.size = g6 at R6 G6 ⊢
   clear y0 y1 y2 y3
   have d0 := (blk_cell R6.out 0).trans rfl
   have d1 := (blk_cell R6.out 1).trans rfl
   have d2 := (blk_cell R6.out 2).trans rfl
   have d3 := (blk_cell R6.out 3).trans rfl
   go_upto_region 6 with (first | (go_at_call 20; refine CK.out.mono ?_; rintro e W4 ⟨⟨c, rfl, hc⟩, hb⟩; have HCK := Aside0.mk hc; have B4 := Aside0.mk (pm_chain B3.out hb); have P4 := Aside0.mk (P3.out.below hb); have R6y := Aside0.mk (blk_below R6.out hb); clear hc hb d0 d1 d2 d3))
   by_cases hc : c = 0
   ·subst hc
    have CO := Aside0.mk (HCK.out.1 rfl)
    have hcn := codeN_pre j HC.out
    have hjn : (j : Int) < (n : Int) := by have := HLT.out; omega
    have hw : wrap64 (4096 + codeN ls j) = 4096 + codeN ls j := by unfold wrap64; omega
    have hw2 : IntKind.i64.wrap (4096 + codeN ls j) = 4096 + codeN ls j := IntWalk.i64_in _ (by omega)
    have HCN := Aside0.mk hcn
    have HD := Aside0.mk P4.out.drew
    have hHR := Aside0.mk P4.out.drew.at_
    have hBB := Aside0.mk (show Below w.heap.size W4 W4.drew from ⟨rfl, rfl, rfl, Nat.le_refl _, fun _ _ => rfl⟩)
    have hbs := Aside0.mk (show w.heap.size ≤ W4.drew.heap.size from B4.out.size)
    have hzz := Aside0.mk (show ((codesN ls j).length + 1) * 16 ≤ 140737488355328 by unfold codesN; have := HLT.out; have := HL.out; rw [HN.out] at this; simp; omega)
    have in61 := Aside0.mk inf61
    have p0 := (blk_cell P4.out.head 0).trans rfl
    have p1 := (blk_cell P4.out.head 1).trans rfl
    have p2 := (blk_cell P4.out.head 2).trans rfl
    have p3 := (blk_cell P4.out.head 3).trans rfl
    have p4 := (blk_cell P4.out.head 4).trans rfl
    have p1a : (W4.alloc (.cells #[.int .i64 (4096 + codeN ls j), .int .i64 0] 61)).cell? ⟨pb, 1, none⟩ = some av := pw_cell_below (w := W4) (below_alloc (Below.refl _ _) _) p1
    go_upto_region 8 with (fail)
    clear hcn
    go_cut [] (fun wc => ∃ v1, Aside0 (PlanR wc w.heap.size pb (.slice (some ad) n cap) v1 w.heap.size (codeN ls j) 0 (codesN ls (j + 1)) []) ∧ Aside0 (Below w.heap.size w wc) ∧ Aside0 (wc.heap[g6]? = some (.cells #[.slice q.a0 o.code.length q.c0, .slice q.a1 o.data.length q.c1, .slice q.a2 o.syms.length q.c2, .slice q.a3 o.fixes.length q.c3] 43 (0, 0))))
    case first =>
     go_region_law (refine step_append_cells (w0 := W4) (W := W4.drew) w.heap.size (by rfl) (.tmp 33) (.tmp 40) 55 61 (.agg #[.int .i64 0, .int .i64 0]) 2 16 (by rfl) Try.underlying55 in61.out rfl (by decide) (by decide) av (codesN ls j).length (atsCells (codesN ls j)) [.int .i64 (4096 + codeN ls j), .int .i64 0] (by simp [Act.eval, Act.put]) (by simp [Act.eval, Act.put]) rfl (by simp [Value.oneCell']) hHR.out hBB.out hbs.out hzz.out ?_; intro v1 w1 hR1 hB1 hG1 hat1; obtain ⟨A1, c1', hv1⟩ := own_slice hR1; subst hv1; obtain ⟨hh1, hpn⟩ := HD.out.grown hG1 (ats' := codesN ls (j + 1)) (codes_own hR1); have HPN := Aside0.mk hpn; have B5 := Aside0.mk (B4.out.trans hB1); have HG1 := Aside0.mk hG1; have z1 : w1.cell? ⟨pb, 1, none⟩ = some av := (blk_cell hh1 1).trans rfl; have f1 : w1.frozen? ⟨pb, 1, none⟩ = false := blk_frozen hh1 1; clear hR1 hB1 hG1 hat1 hpn hh1)
     all_goals go_wp2_with (fail)
     all_goals go_meet
     all_goals (have R6v := Aside0.mk ((HG1.out.block g6 (lt_of_at R6y.out) (own_far (cs := _) (t := 43) hHR.out R6y.out (by decide))).trans R6y.out))
     all_goals exact ⟨_, HPN, ⟨B5.out.setCell (p := ⟨pb, 1, none⟩) P4.out.lo.1 _⟩, ⟨blk_far R6v.out (fun e => own_ne_rows R6y.out P4.out.head e) _⟩⟩
    case rest =>
     obtain ⟨v1, HPc, HBc, R6c⟩ := hcut
     clear p0 p1 p2 p3 p4 p1a hw hw2
     go_upto_region 9 with (fail)
     have p2 : wc.cell? ⟨pb, 2, none⟩ = some (.int .i64 (codeN ls j)) := (blk_cell HPc.out.head 2).trans rfl
     have f2 : wc.frozen? ⟨pb, 2, none⟩ = false := blk_frozen HPc.out.head 2
     have d0 : wc.cell? ⟨g6, 0, none⟩ = some (.slice q.a0 o.code.length q.c0) := (blk_cell R6c.out 0).trans rfl
     have HNX := Aside0.mk (codeN_next HX.out)
     have hcc := CO.out.ncode
     obtain ⟨lc, hlc⟩ : ∃ lc, o.code.length = lc := ⟨_, rfl⟩
     rw [hlc] at d0 HNX hcc
     have h9 := HNX.out
     have hcn := HCN.out
     have hw4 : IntKind.i64.wrap (4 * (lc : Int)) = 4 * (lc : Int) := IntWalk.i64_in _ (by omega)
     have hw5 : IntKind.i64.wrap (codeN ls j + 4 * (lc : Int)) = codeN ls (j + 1) := by rw [h9]; exact IntWalk.i64_in _ (by omega)
     clear h9 hcn hcc hlc
     go_region
     all_goals go_wp2_with (fail)
     all_goals go_roundg (n - (j + 1))
     case measure => have := HJ.out; have := HLT.out; omega
     case rel =>
      refine ⟨j + 1, v1, by have := HJ.out; have := HLT.out; omega, congrArg (Value.int .i64) (by first | (simp; done) | (have := HLT.out; unfold wrap64; omega)), ⟨HPc.out.drew.head_set 2 _ rfl⟩, ⟨(below_drew HBc.out).setCell (p := ⟨pb, 2, none⟩) HPc.out.lo.1 _⟩, ⟨fun i o' hi ho' => ?_⟩⟩
      rcases Nat.lt_succ_iff_lt_or_eq.1 hi with h | h
      ·exact HC.out i o' h ho'
      ·subst h
       rw [HX.out] at ho'
       injection ho' with ho'
       subst ho'
       exact CO.out
   ·have hc2 : (c != 0) = true := by simpa using hc
    have HC0 := Aside0.mk hc
    clear hc
    go_wp2_with (fail)
    go_ret2
    exact ⟨.inr ⟨fun h => HC0.out (HCK.out.2 (h.each j o HX.out)), c, rfl, HC0.out⟩, B4.out⟩
  ·obtain rfl : j = n := by have := HJ.out; omega
   have hlt2 : ¬ ((j : Int) < (j : Int)) := by omega
   have HCA := Aside0.mk (show ∀ (i : Nat) (o : ObjV), ls[i]? = some o → CheckOk o from fun i o ho => HC.out i o (by have := (List.getElem?_eq_some_iff.1 ho).1; have := HN.out; omega) ho)
   have hcn := codeN_pre j HC.out
   have hwc : wrap64 (4096 + codeN ls j) = 4096 + codeN ls j := by unfold wrap64; omega
   have hP0 := HP.out
   rw [show codesN ls j = atsN ls 0 by rw [atsN_zero, HN.out]] at hP0
   have HP1 := Aside0.mk hP0
   have p2 : wr.cell? ⟨pb, 2, none⟩ = some (.int .i64 (codeN ls j)) := (blk_cell HP.out.head 2).trans rfl
   have p3 : wr.cell? ⟨pb, 3, none⟩ = some (.int .i64 0) := (blk_cell HP.out.head 3).trans rfl
   have f3 : wr.frozen? ⟨pb, 3, none⟩ = false := blk_frozen HP.out.head 3
   clear hlt hcn hP0 HP HC
   go_upto_region 12 with (fail)
   have HE0 := Aside0.mk (show 4096 + codeN ls j = endN ls 0 by show _ = 4096 + codeN ls ls.length; rw [HN.out])
   rw [HE0.out]
   have P2 := Aside0.mk (HP1.out.head_set 3 (.int .i64 (endN ls 0)) rfl)
   have B2 := Aside0.mk (HB.out.setCell (p := ⟨pb, 3, none⟩) HP1.out.lo.1 (.int .i64 (endN ls 0)))
   clear p2 p3 f3 hwc
   generalize wr.setCell ⟨pb, 3, none⟩ (.int .i64 (endN ls 0)) = W2 at P2 B2 ⊢
   go_wp2_with (fail)
   clear hlt2
   go_loopg [66] j (fun kq v66 wr => ∃ i : Nat, i + kq = j ∧ v66 = .int .i64 i ∧ Aside0 (PlanR wr w.heap.size pb (.slice A j cap) av w.heap.size (codeN ls j) (endN ls i) (atsN ls i) (namesN ls i)) ∧ Aside0 (Below w.heap.size w wr) ∧ Aside0 (((namesN ls i).map (·.1)).Nodup))
   case atStart => exact ⟨0, by omega, rfl, P2, B2, ⟨List.nodup_nil⟩⟩
   case round =>
    obtain ⟨i, hi, rfl, HP, HB, HND⟩ := hrel
    have HJ2 := Aside0.mk hi
    clear hi
    by_cases hlt : i < j
    ·obtain ⟨o, ho⟩ : ∃ o, ls[i]? = some o := ⟨_, List.getElem?_eq_getElem (by rw [HN.out]; exact hlt)⟩
     obtain ⟨ad, q, hA, hR, x0, x1, x2, x3⟩ := HO.out.each i o ho
     have y0 := pw_cell_below HB.out x0
     have y1 := pw_cell_below HB.out x1
     have y2 := pw_cell_below HB.out x2
     have y3 := pw_cell_below HB.out x3
     clear x0 x1 x2 x3
     have hlt2 : (i : Int) < (j : Int) := by omega
     have HX := Aside0.mk ho
     have HR := Aside0.mk hR
     have HOI := Aside0.mk (HI.out o (List.mem_of_getElem? ho))
     have HLT := Aside0.mk hlt
     subst hA
     clear ho hlt hR
     go_upto_region 15 with (first | (refine wpList_store_row rfl 43 _ _ rfl wr.heap.size _ rfl rfl 43 _ (heap_alloc_last wr _) (by as_aux_lemma => kernel_rfl) (by as_aux_lemma => kernel_rfl) (by as_aux_lemma => kernel_rfl) ?_; rw [World.setRow_alloc_new]))
     have R9 := Aside0.mk (show (wr.alloc (.cells #[.slice q.a0 o.code.length q.c0, .slice q.a1 o.data.length q.c1, .slice q.a2 o.syms.length q.c2, .slice q.a3 o.fixes.length q.c3] 43)).heap[wr.heap.size]? = some (.cells #[.slice q.a0 o.code.length q.c0, .slice q.a1 o.data.length q.c1, .slice q.a2 o.syms.length q.c2, .slice q.a3 o.fixes.length q.c3] 43 (0, 0)) from heap_at _ _ _ rfl)
     have B3 := Aside0.mk (below_alloc HB.out (.cells #[.slice q.a0 o.code.length q.c0, .slice q.a1 o.data.length q.c1, .slice q.a2 o.syms.length q.c2, .slice q.a3 o.fixes.length q.c3] 43))
     have P3 := Aside0.mk (HP.out.below (below_alloc (Below.refl _ _) (.cells #[.slice q.a0 o.code.length q.c0, .slice q.a1 o.data.length q.c1, .slice q.a2 o.syms.length q.c2, .slice q.a3 o.fixes.length q.c3] 43)))
     have G9 := Aside0.mk (show w.heap.size ≤ wr.heap.size from HB.out.size)
     generalize wr.alloc (.cells #[.slice q.a0 o.code.length q.c0, .slice q.a1 o.data.length q.c1, .slice q.a2 o.syms.length q.c2, .slice q.a3 o.fixes.length q.c3] 43) = W3 at R9 B3 P3 ⊢
     generalize wr.heap.size = g9 at R9 G9 ⊢
     clear y0 y1 y2 y3
     have d1 : W3.cell? ⟨g9, 1, none⟩ = some (.slice q.a1 o.data.length q.c1) := (blk_cell R9.out 1).trans rfl
     have hen := endN_le HCA.out i
     have HEN := Aside0.mk (show 4096 ≤ endN ls i ∧ endN ls i ≤ 3500000000000000000 by have := HL.out; have := HLT.out; have := HN.out; omega)
     have HND2 := Aside0.mk (endN_next HX.out)
     have HDT := Aside0.mk (dataN_at HX.out)
     clear hen
     go_upto_if 74 with (fail)
     go_cut [] (fun wc => Aside0 (PlanR wc w.heap.size pb (.slice (some ad) j cap) av w.heap.size (codeN ls j) (e1F (endN ls i) o) (atsN ls i) (namesN ls i)) ∧ Aside0 (Below w.heap.size w wc) ∧ Aside0 (wc.heap[g9]? = some (.cells #[.slice q.a0 o.code.length q.c0, .slice q.a1 o.data.length q.c1, .slice q.a2 o.syms.length q.c2, .slice q.a3 o.fixes.length q.c3] 43 (0, 0))))
     case first =>
      have p3 : W3.cell? ⟨pb, 3, none⟩ = some (.int .i64 (endN ls i)) := (blk_cell P3.out.head 3).trans rfl
      have f3 : W3.frozen? ⟨pb, 3, none⟩ = false := blk_frozen P3.out.head 3
      have UP := Aside0.mk (up_still (endN ls i) W3 (by have := HEN.out; omega) (by have := HEN.out; omega))
      by_cases hd : 0 < o.data.length
      ·have HE1 := Aside0.mk (show e1F (endN ls i) o = upF (endN ls i) by unfold e1F; rw [if_pos hd])
       go_wp2_with (fail)
       go_at_call 21
       refine UP.out.mono ?_
       rintro e W4 ⟨rfl, rfl⟩
       go_wp2_with (fail)
       go_meet
       exact ⟨by rw [HE1.out]; exact ⟨P3.out.head_set 3 _ rfl⟩, ⟨B3.out.setCell (p := ⟨pb, 3, none⟩) P3.out.lo.1 _⟩, ⟨blk_far R9.out (fun e => own_ne_rows R9.out P3.out.head e) _⟩⟩
      ·have HE1 := Aside0.mk (show e1F (endN ls i) o = endN ls i by unfold e1F; rw [if_neg hd])
       go_wp2_with (fail)
       go_meet
       exact ⟨by rw [HE1.out]; exact P3, B3, R9⟩
     case rest =>
      obtain ⟨HPc, HBc, R9c⟩ := hcut
      clear P3 B3 R9
      have p1 : wc.cell? ⟨pb, 1, none⟩ = some av := (blk_cell HPc.out.head 1).trans rfl
      have p3 : wc.cell? ⟨pb, 3, none⟩ = some (.int .i64 (e1F (endN ls i) o)) := (blk_cell HPc.out.head 3).trans rfl
      have he1 := e1F_le (endN ls i) o
      obtain ⟨e1, HE⟩ : ∃ e1, e1F (endN ls i) o = e1 := ⟨_, rfl⟩
      have HPc1 := HPc.out
      rw [HE] at p3 he1 HPc1
      have HPe := Aside0.mk HPc1
      have HEE := Aside0.mk HE
      have HE1 := Aside0.mk he1
      clear HPc HPc1 HE he1
      have UP2 := Aside0.mk (up_still e1 wc.drew (by have := HE1.out; have := HEN.out; omega) (by have := HE1.out; have := HEN.out; omega))
      have hj0 := atsN_at (ls := ls) (j := i) (k := i) (by have := HLT.out; have := HN.out; omega)
      obtain ⟨g, cp, hav, hgb, hg1, hg2, ⟨cur, hcur⟩, c0, c1⟩ := HPe.out.piece hj0
      rw [atsN_length, HN.out] at hav
      have HAV := Aside0.mk hav
      subst hav
      have HJ0 := Aside0.mk hj0
      have HGN := Aside0.mk (And.intro hgb (And.intro hg1 hg2))
      have HCU := Aside0.mk hcur
      clear hj0 hgb hg1 hg2 hcur
      go_upto_region 17 with (fail)
      refine wp_region_still_tail 10 (by kernel_rfl) (by kernel_rfl) ?_
      simp only [List.take_succ_cons, List.take_zero, List.drop_succ_cons, List.drop_zero]
      repeat (with_reducible refine wpStill_step (fun K hK => ?_); go_simp; with_reducible refine hK _ ?_; clear hK K)
      with_reducible refine wpStill_step (fun K hK => ?_)
      go_simp
      refine ⟨_, UP2.out, hK _ ?_⟩
      clear hK K
      repeat (with_reducible refine wpStill_step (fun K hK => ?_); go_simp; with_reducible refine hK _ ?_; clear hK K)
      with_reducible refine wpStill_nil ?_
      change wpList _ _ _ _ _ wc.drew
      have f1 : wc.drew.frozen? ⟨g, i * 2 + 1, none⟩ = false := blk_frozen HCU.out (i * 2 + 1)
      have cc : wc.drew.cell? ⟨g, i * 2 + 1, none⟩ = some (.int .i64 (if i < i then dataN ls i else 0)) := c1
      clear p1 p3 c0 c1 d1
      go_upto_region 18 with (fail)
      have P5 := Aside0.mk (show PlanR (wc.setCell ⟨g, i * 2 + 1, none⟩ (.int .i64 (upF e1))).drew w.heap.size pb (.slice (some ad) j cap) (.slice (some ⟨g, 0, none⟩) j cp) w.heap.size (codeN ls j) e1 (atsN ls (i + 1)) (namesN ls i) from by
       rw [← atsN_next (ls := ls) (j := i) (by have := HLT.out; have := HN.out; omega), HDT.out, HEE.out]
       exact (HPe.out.piece_set HJ0.out (by rw [atsN_length, HN.out]) _).drew)
      have B5 := Aside0.mk (below_drew (HBc.out.setCell (p := ⟨g, i * 2 + 1, none⟩) HGN.out.1 (.int .i64 (upF e1))))
      have R5 := Aside0.mk (show (wc.setCell ⟨g, i * 2 + 1, none⟩ (.int .i64 (upF e1))).drew.heap[g9]? = _ from blk_far R9c.out (fun e => ne_ty R9c.out HCU.out (by decide) e) _)
      clear f1 cc UP2 HPe HJ0 HGN HCU R9c
      generalize (wc.setCell ⟨g, i * 2 + 1, none⟩ (.int .i64 (upF e1))).drew = W5 at P5 B5 R5 ⊢
      go_cut [] (fun wd => Aside0 (PlanR wd w.heap.size pb (.slice (some ad) j cap) (.slice (some ⟨g, 0, none⟩) j cp) w.heap.size (codeN ls j) (endN ls (i + 1)) (atsN ls (i + 1)) (namesN ls i)) ∧ Aside0 (Below w.heap.size w wd) ∧ Aside0 (wd.heap[g9]? = some (.cells #[.slice q.a0 o.code.length q.c0, .slice q.a1 o.data.length q.c1, .slice q.a2 o.syms.length q.c2, .slice q.a3 o.fixes.length q.c3] 43 (0, 0))))
      case first =>
       have p3 : W5.cell? ⟨pb, 3, none⟩ = some (.int .i64 e1) := (blk_cell P5.out.head 3).trans rfl
       have f3 : W5.frozen? ⟨pb, 3, none⟩ = false := blk_frozen P5.out.head 3
       have d1 : W5.cell? ⟨g9, 1, none⟩ = some (.slice q.a1 o.data.length q.c1) := (blk_cell R5.out 1).trans rfl
       have hnd := HND2.out
       rw [HEE.out] at hnd
       have hdl := (HCA.out i o HX.out).ndata
       have hen := HEN.out
       have hee := HE1.out
       obtain ⟨ld, hld⟩ : ∃ ld, o.data.length = ld := ⟨_, rfl⟩
       rw [hld] at d1 hnd hdl
       have hw6 : IntKind.i64.wrap (e1 + (ld : Int)) = endN ls (i + 1) := by rw [hnd]; exact IntWalk.i64_in _ (by omega)
       clear hnd hdl hen hee hld
       go_region
       all_goals go_wp2_with (fail)
       all_goals go_meet
       all_goals exact ⟨⟨P5.out.drew.head_set 3 _ rfl⟩, ⟨(below_drew B5.out).setCell (p := ⟨pb, 3, none⟩) P5.out.lo.1 _⟩, ⟨blk_far R5.out (fun e => own_ne_rows R5.out P5.out.head e) _⟩⟩
      case rest =>
       obtain ⟨HPd, HBd, Rd⟩ := hcut
       clear P5 B5 R5
       obtain ⟨m, hm⟩ : ∃ m, o.syms.length = m := ⟨_, rfl⟩
       have d2 : wc.cell? ⟨g9, 2, none⟩ = some (.slice q.a2 o.syms.length q.c2) := (blk_cell Rd.out 2).trans rfl
       rw [hm] at d2
       obtain ⟨qa, hqa⟩ : ∃ qa, q.a2 = qa := ⟨_, rfl⟩
       rw [hqa] at d2
       have HQA := Aside0.mk hqa
       clear hqa
       have HM := Aside0.mk hm
       have hm2 : (m : Int) ≤ 140737488355328 := by have := HOI.out.nsyms; omega
       clear hm
       go_wp2_with (fail)
       clear d2
       go_loopg [108] m (fun kq v108 wr => ∃ k : Nat, k + kq = m ∧ v108 = .int .i64 k ∧ Aside0 (PlanR wr w.heap.size pb (.slice (some ad) j cap) (.slice (some ⟨g, 0, none⟩) j cp) w.heap.size (codeN ls j) (endN ls (i + 1)) (atsN ls (i + 1)) (namesN ls i ++ symsN ls i (o.syms.take k))) ∧ Aside0 (Below w.heap.size w wr) ∧ Aside0 (wr.heap[g9]? = some (.cells #[.slice q.a0 o.code.length q.c0, .slice q.a1 o.data.length q.c1, .slice q.a2 o.syms.length q.c2, .slice q.a3 o.fixes.length q.c3] 43 (0, 0))) ∧ Aside0 (((namesN ls i ++ symsN ls i (o.syms.take k)).map (·.1)).Nodup))
       case atStart => exact ⟨0, by omega, rfl, by simpa [symsN] using HPd, HBd, Rd, by simpa [symsN] using HND⟩
       case round =>
        obtain ⟨k, hk, rfl, HPk, HBk, Rk, HNk⟩ := hrel
        have HK := Aside0.mk hk
        clear hk
        by_cases hlt : k < m
        ·obtain ⟨y, hy⟩ : ∃ y, o.syms[k]? = some y := ⟨_, List.getElem?_eq_getElem (by rw [HM.out]; exact hlt)⟩
         obtain ⟨a2, hA, y0, y1, y2⟩ := (HR.out.below HBk.out).syms.at hy
         have hA := HQA.out.symm.trans hA
         have hlt3 : (k : Int) < (m : Int) := by omega
         have HY := Aside0.mk hy
         have HLK := Aside0.mk hlt
         subst hA
         clear hy hlt
         obtain ⟨name, data, off⟩ := y
         simp only at y0 y1 y2
         go_upto_region 22 with (first | (refine wpList_store_row rfl 66 _ _ rfl wr.heap.size _ rfl rfl 66 _ (heap_alloc_last wr _) (by as_aux_lemma => kernel_rfl) (by as_aux_lemma => kernel_rfl) (by as_aux_lemma => kernel_rfl) ?_; rw [World.setRow_alloc_new]))
         have R8 := Aside0.mk (show (wr.alloc (.cells #[.string name, .bool data, .int .i64 off] 66)).heap[wr.heap.size]? = some (.cells #[.string name, .bool data, .int .i64 off] 66 (0, 0)) from heap_at _ _ _ rfl)
         have R7 := Aside0.mk (blk_alloc Rk.out (.cells #[.string name, .bool data, .int .i64 off] 66))
         have B7 := Aside0.mk (below_alloc HBk.out (.cells #[.string name, .bool data, .int .i64 off] 66))
         have P7 := Aside0.mk (HPk.out.below (below_alloc (Below.refl _ _) (.cells #[.string name, .bool data, .int .i64 off] 66)))
         generalize wr.alloc (.cells #[.string name, .bool data, .int .i64 off] 66) = W6 at R7 R8 B7 P7 ⊢
         generalize wr.heap.size = g8 at R8 ⊢
         clear y0 y1 y2
         have SI := Aside0.mk (HOI.out.syms _ (List.mem_of_getElem? HY.out))
         have SO := Aside0.mk ((HCA.out i o HX.out).syms k _ HY.out)
         obtain ⟨kl, hkey⟩ := key9 name SI.out.1
         have HKEY := Aside0.mk hkey
         have HDR := Aside0.mk P7.out.drew
         have p4 : W6.drew.cell? ⟨pb, 4, none⟩ = some (.map (some w.heap.size)) := (blk_cell HDR.out.head 4).trans rfl
         have z0 : W6.drew.cell? ⟨g8, 0, none⟩ = some (.string name) := (blk_cell (w := W6.drew) R8.out 0).trans rfl
         by_cases hin : name ∈ (namesN ls i ++ symsN ls i (o.syms.take k)).map (·.1)
         ·have NO := Aside0.mk (names_dup HX.out HY.out hin)
          obtain ⟨pp, hpp⟩ : ∃ pp, look (namesN ls i ++ symsN ls i (o.syms.take k)) name = some pp := by
           cases hq : look (namesN ls i ++ symsN ls i (o.syms.take k)) name with
           | some pp => exact ⟨pp, rfl⟩
           | none => exact absurd hin (look_none.1 hq)
          obtain ⟨pv, pc⟩ := pp
          have hl0 := HDR.out.names.look_ok law9 Try.underlying56 zero54 hkey
          have p4a : (W6.alloc (.cells #[.int .i64 0, .bool false] 54)).cell? ⟨pb, 4, none⟩ = some (.map (some w.heap.size)) := pw_cell_below (w := W6) (below_alloc (Below.refl _ _) _) p4
          have z0a : (W6.alloc (.cells #[.int .i64 0, .bool false] 54)).cell? ⟨g8, 0, none⟩ = some (.string name) := pw_cell_below (w := W6) (below_alloc (Below.refl _ _) _) z0
          have hl1 := (P7.out.names.below (below_alloc (Below.refl _ _) (.cells #[.int .i64 0, .bool false] 54))).look_ok law9 Try.underlying56 zero54 hkey
          have hl2 := (P7.out.names.below (below_drew (below_alloc (Below.refl _ _) (.cells #[.int .i64 0, .bool false] 54)))).look_ok law9 Try.underlying56 zero54 hkey
          simp only [nameM, hpp, Option.map_some, Option.getD_some, Option.isSome_some, placeV] at hl0 hl1 hl2
          clear hpp hin hkey
          go_region
          all_goals go_wp2_with (fail)
          all_goals go_ret2
          all_goals exact ⟨.inr ⟨NO.out, 230, rfl, by decide⟩, below_drew (below_alloc B7.out _)⟩
         ·have NEW := Aside0.mk hin
          have hpp := look_none.2 hin
          have hl0 := HDR.out.names.look_ok law9 Try.underlying56 zero54 hkey
          have p4a : (W6.alloc (.cells #[.int .i64 0, .bool false] 54)).cell? ⟨pb, 4, none⟩ = some (.map (some w.heap.size)) := pw_cell_below (w := W6) (below_alloc (Below.refl _ _) _) p4
          have z0a : (W6.alloc (.cells #[.int .i64 0, .bool false] 54)).cell? ⟨g8, 0, none⟩ = some (.string name) := pw_cell_below (w := W6) (below_alloc (Below.refl _ _) _) z0
          have hl1 := (P7.out.names.below (below_alloc (Below.refl _ _) (.cells #[.int .i64 0, .bool false] 54))).look_ok law9 Try.underlying56 zero54 hkey
          have hl2 := (P7.out.names.below (below_drew (below_alloc (Below.refl _ _) (.cells #[.int .i64 0, .bool false] 54)))).look_ok law9 Try.underlying56 zero54 hkey
          simp only [nameM, hpp, Option.map_none, Option.getD_none, Option.isSome_none] at hl0 hl1 hl2
          clear hpp hin hkey
          have HKEY := Aside0.mk (show ∃ l, keyOf Try.prog 9 (.string name) = some l from key9 name SI.out.1)
          simp only [Act.put, List.setIfInBounds_toArray, List.set_cons_succ, List.set_cons_zero]
          go_cut [13] (fun v13 wc => v13 = .bool false ∧ wc = (W6.alloc (.cells #[.int .i64 0, .bool false] 54)).drew)
          case first =>
           go_region
           all_goals go_wp2_with (fail)
           all_goals go_meet
           all_goals exact ⟨rfl, rfl⟩
          case rest =>
           obtain ⟨rfl, hwc⟩ := hcut
           have P8 := Aside0.mk (P7.out.below (below_drew (below_alloc (Below.refl _ _) (.cells #[.int .i64 0, .bool false] 54))))
           have B8 := Aside0.mk (below_drew (below_alloc B7.out (.cells #[.int .i64 0, .bool false] 54)))
           have R8y := Aside0.mk (blk_below R8.out (below_drew (below_alloc (Below.refl _ _) (.cells #[.int .i64 0, .bool false] 54))))
           have R7y := Aside0.mk (blk_below R7.out (below_drew (below_alloc (Below.refl _ _) (.cells #[.int .i64 0, .bool false] 54))))
           clear p4 z0 p4a z0a hl0 hl1 hl2
           rw [← hwc] at P8 B8 R8y R7y
           clear hwc
           have hj0 := atsN_at (ls := ls) (j := i + 1) (k := i) (by have := HLT.out; have := HN.out; omega)
           rw [if_pos (Nat.lt_succ_self i)] at hj0
           obtain ⟨g', cp', hav, hgb, hg1, hg2, _, c0, c1⟩ := P8.out.piece hj0
           rw [atsN_length, HN.out] at hav
           injection hav with hav _ hcp
           injection hav with hav
           injection hav with hav _ _
           subst hav
           simp only at c0 c1
           clear hgb hg1 hg2 hj0 hcp
           have p1 : wc.cell? ⟨pb, 1, none⟩ = some (.slice (some ⟨g, 0, none⟩) j cp) := (blk_cell P8.out.head 1).trans rfl
           have p4 : wc.cell? ⟨pb, 4, none⟩ = some (.map (some w.heap.size)) := (blk_cell P8.out.head 4).trans rfl
           have z0 : wc.cell? ⟨g8, 0, none⟩ = some (.string name) := (blk_cell R8y.out 0).trans rfl
           have z1 : wc.cell? ⟨g8, 1, none⟩ = some (.bool data) := (blk_cell R8y.out 1).trans rfl
           have z2 : wc.cell? ⟨g8, 2, none⟩ = some (.int .i64 off) := (blk_cell R8y.out 2).trans rfl
           cases data
           · -- false
            obtain ⟨PV, hpv⟩ : ∃ pv, symP ls i ⟨name, false, off⟩ = pv := ⟨_, rfl⟩
            have HPV := Aside0.mk hpv
            have hpw : PV = ((4096 + codeN ls i) + off, true) := by rw [← hpv]; rfl
            have hso0 : 0 ≤ off := SO.out.lo
            have hso1 : off ≤ mostF o ⟨name, false, off⟩ := SO.out.hi
            have hbd : 0 ≤ (4096 + codeN ls i) ∧ (4096 + codeN ls i) ≤ 4000000000000000000 := by
             have h1 := codeN_le HCA.out i; have h2 := HLT.out; omega
            have hmo : mostF o ⟨name, false, off⟩ ≤ 1048576 := by
             unfold mostF; simp only [if_true, if_false, Bool.false_eq_true]; exact (HCA.out i o HX.out).ncode
            obtain ⟨av0, hav0⟩ : ∃ a, (4096 + codeN ls i) = a := ⟨_, rfl⟩
            rw [hav0] at hpw hbd c0
            have hw7 : IntKind.i64.wrap (av0 + off) = av0 + off := IntWalk.i64_in _ (by omega)
            obtain ⟨ob, hput, hmv⟩ := P8.out.drew.names.put law9 Try.underlying56 HKEY.out.choose_spec (.agg #[.int .i64 (av0 + off), .bool true])
            clear hso0 hso1 hbd hmo hpv hav0
            have HPW := Aside0.mk hpw
            have HMV := Aside0.mk hmv
            clear hpw hmv
            go_upto_region 27 with (fail)
            refine wp_region_still_tail 18 (by kernel_rfl) (by kernel_rfl) ?_
            simp only [List.take_succ_cons, List.take_zero, List.drop_succ_cons, List.drop_zero]
            repeat (with_reducible refine wpStill_step (fun K hK => ?_); go_simp; with_reducible refine hK _ ?_; clear hK K)
            with_reducible refine wpStill_nil ?_
            change wpList _ _ _ _ _ wc.drew
            go_wp2_with (fail)
            go_roundg (m - (k + 1))
            case measure => have := HK.out; have := HLK.out; omega
            case rel =>
             have hmv := HMV.out
             rw [show (Value.agg #[.int .i64 (av0 + off), .bool true]) = placeV PV by rw [HPW.out]; rfl, upd_nameM _ _ _ (look_none.2 NEW.out)] at hmv
             refine ⟨k + 1, by have := HK.out; have := HLK.out; omega, congrArg (Value.int .i64) (by first | (simp; done) | (have := HLK.out; unfold wrap64; omega)), ⟨?_⟩, ⟨below_setBlock (below_drew B8.out) P8.out.lo.2 ob⟩, ⟨(setBlock_ne wc.drew w.heap.size ob (map_ne (w := wc) P8.out.names R7y.out)).trans R7y.out⟩, ⟨?_⟩⟩
             ·rw [names_next HY.out, HPV.out]
              exact P8.out.drew.named ob hmv
             ·rw [names_next HY.out]
              exact names_new HNk.out NEW.out
           · -- true
            obtain ⟨PV, hpv⟩ : ∃ pv, symP ls i ⟨name, true, off⟩ = pv := ⟨_, rfl⟩
            have HPV := Aside0.mk hpv
            have hpw : PV = (dataN ls i + off, false) := by rw [← hpv]; rfl
            have hso0 : 0 ≤ off := SO.out.lo
            have hso1 : off ≤ mostF o ⟨name, true, off⟩ := SO.out.hi
            have hbd : 0 ≤ dataN ls i ∧ dataN ls i ≤ 4000000000000000000 := by
             rw [HDT.out]; have h1 := HEE.out; have h2 := HE1.out; have h3 := HEN.out; have h4 := upF_le (e1F (endN ls i) o); omega
            have hmo : mostF o ⟨name, true, off⟩ ≤ 1048576 := by
             unfold mostF; simp only [if_true, if_false, Bool.false_eq_true]; exact (HCA.out i o HX.out).ndata
            obtain ⟨av0, hav0⟩ : ∃ a, dataN ls i = a := ⟨_, rfl⟩
            rw [hav0] at hpw hbd c1
            have hw7 : IntKind.i64.wrap (av0 + off) = av0 + off := IntWalk.i64_in _ (by omega)
            obtain ⟨ob, hput, hmv⟩ := P8.out.drew.names.put law9 Try.underlying56 HKEY.out.choose_spec (.agg #[.int .i64 (av0 + off), .bool false])
            clear hso0 hso1 hbd hmo hpv hav0
            have HPW := Aside0.mk hpw
            have HMV := Aside0.mk hmv
            clear hpw hmv
            go_upto_region 26 with (fail)
            refine wp_region_still_tail 18 (by kernel_rfl) (by kernel_rfl) ?_
            simp only [List.take_succ_cons, List.take_zero, List.drop_succ_cons, List.drop_zero]
            repeat (with_reducible refine wpStill_step (fun K hK => ?_); go_simp; with_reducible refine hK _ ?_; clear hK K)
            with_reducible refine wpStill_nil ?_
            change wpList _ _ _ _ _ wc.drew
            go_wp2_with (fail)
            go_roundg (m - (k + 1))
            case measure => have := HK.out; have := HLK.out; omega
            case rel =>
             have hmv := HMV.out
             rw [show (Value.agg #[.int .i64 (av0 + off), .bool false]) = placeV PV by rw [HPW.out]; rfl, upd_nameM _ _ _ (look_none.2 NEW.out)] at hmv
             refine ⟨k + 1, by have := HK.out; have := HLK.out; omega, congrArg (Value.int .i64) (by first | (simp; done) | (have := HLK.out; unfold wrap64; omega)), ⟨?_⟩, ⟨below_setBlock (below_drew B8.out) P8.out.lo.2 ob⟩, ⟨(setBlock_ne wc.drew w.heap.size ob (map_ne (w := wc) P8.out.names R7y.out)).trans R7y.out⟩, ⟨?_⟩⟩
             ·rw [names_next HY.out, HPV.out]
              exact P8.out.drew.named ob hmv
             ·rw [names_next HY.out]
              exact names_new HNk.out NEW.out
        ·obtain rfl : k = m := by have := HK.out; omega
         have hlt3 : ¬ ((k : Int) < (k : Int)) := by omega
         have HNN := Aside0.mk (show namesN ls i ++ symsN ls i (o.syms.take k) = namesN ls (i + 1) by rw [namesN_next HX.out, ← HM.out, List.take_length])
         clear hlt
         go_wp2_with (fail)
         go_roundg (j - (i + 1))
         case measure => have := HJ2.out; have := HLT.out; omega
         case rel => exact ⟨i + 1, by have := HJ2.out; have := HLT.out; omega, congrArg (Value.int .i64) (by first | (simp; done) | (have := HLT.out; unfold wrap64; omega)), ⟨by rw [← HNN.out]; exact HPk.out⟩, HBk, ⟨by rw [← HNN.out]; exact HNk.out⟩⟩
    ·obtain rfl : i = j := by have := HJ2.out; omega
     have hlt2 : ¬ ((i : Int) < (i : Int)) := by omega
     clear hlt
     go_wp2_with (fail)
     go_ret2
     refine ⟨.inl ⟨⟨HCA.out, by rw [HN.out]; exact HND.out⟩, pb, w.heap.size, av, rfl, ?_⟩, HB.out⟩
     rw [HN.out]
     exact HP.out
end Go.Proofs.Ytejhnlljddjicaa.Ma
