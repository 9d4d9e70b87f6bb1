/- The document's memory: Make. No condition beyond those each theorem names. -/
import Derived.Test.YthdnhfjodhjejaaRk
import Derived.Deep.RegionLaw
namespace Go.Proofs.Ythdnhfjodhjejaa.Ma
open Go.RowKit Go.Proofs.Ythdnhfjodhjejaa.PMe Go.Proofs.YthdnhfjodhjejaaW.PrintWords Go.Proofs.YthdnhfjodhjejaaW.PrintLast Go.Proofs.YthdnhfjodhjejaaW.PrintMore
set_option linter.unusedVariables false
set_option linter.unusedSimpArgs false
variable {w w' : World} {r : Nat} {sv : Value} {Bs : List Blk}
def newB (a : Int) (g n : Nat) : Blk := ⟨a, false, g, List.replicate n zC⟩
theorem live_add (Bs : List Blk) (a : Int) (g n : Nat) : live (Bs ++ [newB a g n]) = live Bs + 1 := by
  unfold live
  rw [List.filter_append, List.length_append]
  rfl
theorem info181' : ∃ i, Try.prog.info? 181 = some i ∧ i.zero = some (.agg #[.int .i64 0, .bool false, .slice none 0 0]) ∧ i.size = 3 ∧ i.bytes = 40 := by
  have h : (Try.prog.info? 181).map (fun i => (i.zero, i.size, i.bytes)) = some (some (.agg #[.int .i64 0, .bool false, .slice none 0 0]), 3, 40) := by kernel_rfl
  cases hi : Try.prog.info? 181 with
  | none => rw [hi] at h; cases h
  | some i => rw [hi] at h; simp only [Option.map_some, Option.some.injEq, Prod.mk.injEq] at h; exact ⟨i, rfl, h⟩
theorem rmake_world (h : RM w r sv Bs) (n : Nat) (a : Int) (h1 : 1 ≤ n) (h2 : n ≤ 16384) (ha : a = 1 ∨ a = 2 ∨ a = 4) (hb : Bs.length < 1759218604441) (hf : live Bs < 4096) {W2 : World}
    (hW2 : W2 = ((w.alloc (.cells (rowC (List.replicate n zC)) 66)).alloc (.cells #[.int .i64 a, .bool false, .slice (some ⟨w.heap.size, 0, none⟩) n n] 181)).drew) :
    ∃ v1 w1, (Builtin.append_ #[70, 70] 70 #[sv, .slice (some ⟨w.heap.size + 1, 0, none⟩) 1 1]).run Try.prog W2 = .ok v1 w1 ∧
      w1.heap[r]? = some (.cells #[sv, .int .i64 (live Bs : Nat)] 72 (0, 0)) ∧ (∃ A c, v1 = .slice A (Bs.length + 1) c) ∧
      RDid w ((w1.setCell ⟨r, 0, none⟩ v1).setCell ⟨r, 1, none⟩ (.int .i64 ((live Bs : Int) + 1))) r sv Bs v1 (Bs ++ [newB a w.heap.size n]) := by
  have s2 : W2.heap.size = w.heap.size + 2 := by subst hW2; simp [World.drew]
  have b2 : Below w.heap.size w W2 := by subst hW2; (repeat (first | (with_reducible exact Below.refl _ _) | (with_reducible assumption) | with_reducible apply below_alloc | with_reducible apply pw_below_drewN | with_reducible apply below_drew1))
  have g2 : W2.heap[w.heap.size]? = some (.cells (rowC (List.replicate n zC)) 66) := by
    subst hW2
    show ((w.alloc _).alloc _).heap[w.heap.size]? = _
    rw [(below_alloc (Below.refl _ (w.alloc (.cells (rowC (List.replicate n zC)) 66))) _).block _ (by simp)]
    exact heap_alloc_last w _
  have k2 : W2.heap[w.heap.size + 1]? = some (.cells #[.int .i64 a, .bool false, .slice (some ⟨w.heap.size, 0, none⟩) n n] 181) := by
    subst hW2
    have := heap_alloc_last (w.alloc (.cells (rowC (List.replicate n zC)) 66)) (.cells #[.int .i64 a, .bool false, .slice (some ⟨w.heap.size, 0, none⟩) n n] 181)
    simpa [World.drew] using this
  clear hW2
  have h2' := h.below b2
  obtain ⟨i, hi, hz0, hz1, hz2⟩ := info181'
  obtain ⟨v1, w1, hrun, hown, hgr, _, hat⟩ := run_append_own_at (P := Try.prog) W2 0 70 70 181 i _ 3 40 Try.underlying70 hi hz0 hz1 hz2 rfl (by decide) sv Bs.length _ h2'.own ⟨w.heap.size + 1, 0, none⟩ 1 1 [.int .i64 a, .bool false, .slice (some ⟨w.heap.size, 0, none⟩) n n] rfl (World.news_of_block k2) (by intro u hu; simp at hu; rcases hu with rfl | rfl | rfl <;> rfl) (by unfold maxLen; omega) (by omega) (Nat.zero_le _)
  have hnd := h.nodup
  unfold rfoot at hnd
  rw [List.nodup_cons, List.nodup_append] at hnd
  have flt := h.foot_lt
  have hrl : r < w.heap.size := flt r (by simp [rfoot])
  have hro : some r ≠ sv.ownBlock := fun e => hnd.1 (by simp [← e])
  have hv1 : ∀ k, v1.ownBlock = some k → (sv.ownBlock = some k ∨ k = w.heap.size + 2) := by
    intro k hk
    rcases hat with e | e
    · exact .inl (e ▸ hk)
    · rw [e, s2] at hk; exact .inr (Option.some.inj hk).symm
  have hvr : ∀ k, v1.ownBlock = some k → k ≠ r := by
    intro k hk e
    rcases hv1 k hk with h' | h'
    · exact hro (by rw [h', e])
    · omega
  have headw : w1.heap[r]? = some (.cells #[sv, .int .i64 (live Bs : Nat)] 72 (0, 0)) := (hgr.block r (by omega) hro).trans h2'.head
  have old : ∀ k, k < w.heap.size → some k ≠ sv.ownBlock → k ≠ r → ((w1.setCell ⟨r, 0, none⟩ v1).setCell ⟨r, 1, none⟩ (.int .i64 ((live Bs : Int) + 1))).heap[k]? = w.heap[k]? := by
    intro k hk ho hkr
    rw [Below.heap_setCell _ _ _ k hkr, Below.heap_setCell _ _ _ k hkr, hgr.block k (by omega) ho, b2.block k hk]
  have gown : ∀ x ∈ Bs, x.dead = false → some x.g ≠ sv.ownBlock ∧ x.g ≠ r ∧ x.g < w.heap.size := by
    intro x hx hxd
    have hm : x.g ∈ Bs.flatMap Blk.fp := List.mem_flatMap.2 ⟨x, hx, by simp [Blk.fp, hxd]⟩
    exact ⟨fun e => hnd.2.2.2 x.g (by simp [← e]) x.g hm rfl, fun e => hnd.1 (List.mem_append.2 (.inr (e ▸ hm))), blk_lt (h.row x hx hxd)⟩
  have hso : ∀ k, sv.ownBlock = some k → k < w.heap.size := fun k hk => flt k (by simp [rfoot, hk])
  refine ⟨v1, w1, hrun, headw, ?_, ⟨⟨?_, ?_, ?_, ?_, ?_, ?_, ?_, ?_⟩, ?_, ?_⟩⟩
  · rcases hown.2 with ⟨_, h0⟩ | ⟨g, cap, cur, e, _⟩
    · omega
    · exact ⟨_, _, e⟩
  · rw [live_add]
    exact blk_put (blk_put headw 0 v1 rfl) 1 _ (by simp)
  · have hE : [newB a w.heap.size n].flatMap Blk.enc = [.int .i64 a, .bool false, .slice (some ⟨w.heap.size, 0, none⟩) n n] := by simp [newB, Blk.enc, Blk.sv]
    rw [List.length_append, List.flatMap_append, hE, show [newB a w.heap.size n].length = 1 from rfl]
    refine own_move hown (fun k hk => ?_)
    rw [Below.heap_setCell _ _ _ k (hvr k hk), Below.heap_setCell _ _ _ k (hvr k hk)]
  · intro x hx hxd
    rcases List.mem_append.1 hx with hx | hx
    · obtain ⟨q1, q2, q3⟩ := gown x hx hxd
      exact (old x.g q3 q1 q2).trans (h.row x hx hxd)
    · obtain rfl : x = newB a w.heap.size n := by simpa using hx
      have hr1 : w.heap.size ≠ r := by omega
      show ((w1.setCell ⟨r, 0, none⟩ v1).setCell ⟨r, 1, none⟩ _).heap[w.heap.size]? = _
      rw [Below.heap_setCell _ _ _ _ hr1, Below.heap_setCell _ _ _ _ hr1, hgr.block _ (by omega) (fun e => by have := hso _ e.symm; omega)]
      exact g2
  · unfold rfoot
    rw [List.flatMap_append]
    have hfb : [newB a w.heap.size n].flatMap Blk.fp = [w.heap.size] := rfl
    rw [hfb, List.nodup_cons, List.nodup_append, List.nodup_append]
    have flatlt : ∀ i ∈ Bs.flatMap Blk.fp, i < w.heap.size := fun i hi => flt i (by simp only [rfoot, List.mem_cons, List.mem_append]; exact .inr (.inr hi))
    refine ⟨?_, ?_, ⟨hnd.2.2.1, by simp, ?_⟩, ?_⟩
    · intro hm
      simp only [List.mem_append, Option.mem_toList] at hm
      rcases hm with hm | hm | hm
      · exact hvr r hm rfl
      · exact hnd.1 (List.mem_append.2 (.inr hm))
      · simp at hm; omega
    · cases v1.ownBlock <;> simp
    · intro i hi j hj
      have := flatlt i hi
      simp at hj; omega
    · intro i hi j hj
      simp only [Option.mem_toList] at hi
      rcases hv1 i hi with h' | h'
      · rcases List.mem_append.1 hj with hj | hj
        · exact hnd.2.2.2 i (by simp [h']) j hj
        · have := hso i h'; simp at hj; omega
      · rcases List.mem_append.1 hj with hj | hj
        · have := flatlt j hj; omega
        · simp at hj; omega
  · intro x hx hxd
    rcases List.mem_append.1 hx with hx | hx
    · exact h.len x hx hxd
    · obtain rfl : x = newB a w.heap.size n := by simpa using hx
      simp [newB]; omega
  · intro x hx
    rcases List.mem_append.1 hx with hx | hx
    · exact h.al x hx
    · obtain rfl : x = newB a w.heap.size n := by simpa using hx
      exact ha
  · rw [live_add]; omega
  · simp; omega
  · refine ⟨hgr.os.trans b2.os, hgr.tape.trans b2.tape, hgr.output.trans b2.output, by have := hgr.size; simp [World.setCell]; omega, ?_⟩
    intro k hk hkf
    refine old k hk (fun e => hkf (by simp [rfoot, ← e])) (fun e => hkf (by simp [rfoot, e]))
  · intro i hi
    unfold rfoot at hi ⊢
    rw [List.flatMap_append] at hi
    simp only [List.mem_cons, List.mem_append, Option.mem_toList] at hi ⊢
    rcases hi with hi | hi | hi | hi
    · exact .inl (.inl hi)
    · rcases hv1 i hi with h' | h'
      · exact .inl (.inr (.inl h'))
      · right; omega
    · exact .inl (.inr (.inr hi))
    · have hfb : [newB a w.heap.size n].flatMap Blk.fp = [w.heap.size] := rfl
      rw [hfb] at hi; simp at hi; right; omega
theorem step_append_run {ops : Array Oper} {o : Oper} {a : Act} {K : Act → World → Prop} {Q : Exit → Act → World → Prop} {W W1 : World} {v1 : Value} (hw : Region.wanted o (yielded ops a.tmps) = true) (s x : Operand)
    (ho : o.op = .call { callee := .builtin .append, args := #[s, x], argTypes := #[70, 70] }) (sv xv : Value) (hs : a.eval s = sv) (hx : a.eval x = xv)
    (hrun : (Builtin.append_ #[70, 70] o.type #[sv, xv]).run Try.prog W = .ok v1 W1) (h : K (a.put o.dst v1) W1) :
    if Region.wanted o (yielded ops a.tmps) = true then Oper.wp Try.prog o a W K Q else K (a.put o.dst undef) W := by
  rw [if_pos hw]
  unfold Oper.wp execOp
  simp only [ho, resolve, invoke, builtin, Sem.run_bind, Sem.run_pure, Result.andThen_ok, List.map_toArray, List.map_cons, List.map_nil, hs, hx, hrun]
  exact h
set_option maxHeartbeats 4000000 in
set_option maxRecDepth 100000 in
theorem rMake_arg (h : RM w r sv Bs) (n a : Int) (hb : n < 1 ∨ 16384 < n ∨ pow2 a = false) : Calls Try.prog 53 #[.pointer (some ⟨r, 0, none⟩), .int .i64 n, .int .i64 a] w fun e w' => e = .returned (.tuple #[.int .i64 0, .int .i64 2]) ∧ Below w.heap.size w w' := by
  clear h
  by_cases c1 : n < 1
  · have t1 : decide (n < 1) = true := by simp; omega
    clear hb
    go_enter Try.func53, Try.ntmps53
    go_wp2_with (fail)
    go_ret2
    exact ⟨rfl, by (repeat (first | (with_reducible exact Below.refl _ _) | (with_reducible assumption) | with_reducible apply below_alloc | with_reducible apply pw_below_drewN | with_reducible apply below_drew1))⟩
  have t1 : decide (n < 1) = false := by simp; omega
  by_cases c2 : 16384 < n
  · have t2 : decide (n > 16384) = true := by simp; omega
    clear hb
    go_enter Try.func53, Try.ntmps53
    go_wp2_with (fail)
    go_ret2
    exact ⟨rfl, by (repeat (first | (with_reducible exact Below.refl _ _) | (with_reducible assumption) | with_reducible apply below_alloc | with_reducible apply pw_below_drewN | with_reducible apply below_drew1))⟩
  have t2 : decide (n > 16384) = false := by simp; omega
  have c3 : pow2 a = false := by rcases hb with h | h | h <;> first | exact h | omega
  have C3 := Aside0.mk c3
  clear c3 hb c1 c2
  go_enter Try.func53, Try.ntmps53
  go_wp2_with (first | (go_at_call 84; refine (rpower_calls _ a).mono ?_; rintro e w' ⟨rfl, nk, rfl⟩; rw [C3.out]))
  go_ret2
  exact ⟨rfl, by (repeat (first | (with_reducible exact Below.refl _ _) | (with_reducible assumption) | with_reducible apply below_alloc | with_reducible apply pw_below_drewN | with_reducible apply below_drew1))⟩
set_option maxHeartbeats 4000000 in
set_option maxRecDepth 100000 in
theorem rMake_full (h : RM w r sv Bs) (n a : Int) (hb : ¬ (n < 1 ∨ 16384 < n ∨ pow2 a = false)) (hf : 4096 ≤ live Bs) : Calls Try.prog 53 #[.pointer (some ⟨r, 0, none⟩), .int .i64 n, .int .i64 a] w fun e w' => e = .returned (.tuple #[.int .i64 0, .int .i64 32]) ∧ Below w.heap.size w w' := by
  have t1 : decide (n < 1) = false := by simp; omega
  have t2 : decide (n > 16384) = false := by simp; omega
  have c3 : pow2 a = true := by cases h : pow2 a <;> simp [h] at hb ⊢
  have C3 := Aside0.mk c3
  obtain ⟨_, d1⟩ := h.cells
  have t4 : decide (((live Bs : Nat) : Int) ≥ 4096) = true := by simp; omega
  clear c3 hb h hf
  go_enter Try.func53, Try.ntmps53
  go_wp2_with (first | (go_at_call 84; refine (rpower_calls _ a).mono ?_; rintro e w' ⟨rfl, nk, rfl⟩; rw [C3.out]))
  go_ret2
  exact ⟨rfl, by (repeat (first | (with_reducible exact Below.refl _ _) | (with_reducible assumption) | with_reducible apply below_alloc | with_reducible apply pw_below_drewN | with_reducible apply below_drew1))⟩
set_option maxHeartbeats 8000000 in
set_option maxRecDepth 100000 in
theorem rMake_ok (h : RM w r sv Bs) (n a : Int) (hb : ¬ (n < 1 ∨ 16384 < n ∨ pow2 a = false)) (hf : live Bs < 4096) (hbig : Bs.length < 1759218604441) : Calls Try.prog 53 #[.pointer (some ⟨r, 0, none⟩), .int .i64 n, .int .i64 a] w fun e w' => ∃ sv' g, e = .returned (.tuple #[.int .i64 ((Bs.length : Int) + 1), .int .i64 0]) ∧ RDid w w' r sv Bs sv' (Bs ++ [newB a g n.toNat]) := by
  have t1 : decide (n < 1) = false := by simp; omega
  have t2 : decide (n > 16384) = false := by simp; omega
  have c3 : pow2 a = true := by cases h : pow2 a <;> simp [h] at hb ⊢
  have C3 := Aside0.mk c3
  have ha : a = 1 ∨ a = 2 ∨ a = 4 := by simp only [pow2, Bool.or_eq_true, beq_iff_eq] at c3; omega
  have t4 : decide (((live Bs : Nat) : Int) ≥ 4096) = false := by simp; omega
  obtain ⟨N, rfl⟩ : ∃ N : Nat, n = N := ⟨n.toNat, by omega⟩
  have hN := Aside0.mk (show 1 ≤ N ∧ N ≤ 16384 by omega)
  have H := Aside0.mk h
  have HH := Aside0.mk (And.intro ha (And.intro hf hbig))
  obtain ⟨_, d1⟩ := h.cells
  clear c3 hb h hf ha hbig
  go_enter Try.func53, Try.ntmps53
  go_upto_region 5 with (first | (go_at_call 84; refine (rpower_calls _ a).mono ?_; rintro e w' ⟨rfl, nk, rfl⟩; rw [C3.out]))
  have hB : Below w.heap.size w (w.drewN nk) := by (repeat (first | (with_reducible exact Below.refl _ _) | (with_reducible assumption) | with_reducible apply below_alloc | with_reducible apply pw_below_drewN | with_reducible apply below_drew1))
  have RM1 := H.out.below hB
  have HB := Aside0.mk hB
  generalize w.drewN nk = W0 at RM1 HB ⊢
  obtain ⟨v1, w1, hrun, hhead, ⟨A, c, hv1⟩, did⟩ := rmake_world RM1 N a hN.out.1 hN.out.2 HH.out.1 HH.out.2.2 HH.out.2.1 rfl
  have hmk := run_make60 (N : Int) (by have := hN.out; omega) (by have := hN.out; omega)
  simp only [Int.toNat_natCast] at hmk
  obtain ⟨d0, d1'⟩ := RM1.cells
  have x0 : w1.cell? ⟨r, 0, none⟩ = some sv := (blk_cell hhead 0).trans rfl
  have x1 : w1.cell? ⟨r, 1, none⟩ = some (.int .i64 (live Bs : Nat)) := (blk_cell hhead 1).trans rfl
  have z0 : w1.frozen? ⟨r, 0, none⟩ = false := blk_frozen hhead 0
  have z1 : w1.frozen? ⟨r, 1, none⟩ = false := blk_frozen hhead 1
  subst hv1
  have DID := Aside0.mk did
  have hbl := H.out.big
  have hlf : live Bs ≤ 4096 := H.out.few
  clear did hhead d1 RM1
  have HRUN := Aside0.mk hrun
  clear hrun
  have dA := pw_cell_below (show Below W0.heap.size W0 (W0.alloc (.cells (rowC (List.replicate N zC)) 66)) by (repeat (first | (with_reducible exact Below.refl _ _) | (with_reducible assumption) | with_reducible apply below_alloc | with_reducible apply pw_below_drewN | with_reducible apply below_drew1))) d0
  have dB := pw_cell_below (show Below W0.heap.size W0 ((W0.alloc (.cells (rowC (List.replicate N zC)) 66)).alloc (.cells #[.int .i64 a, .bool false, .slice (some ⟨W0.heap.size, 0, none⟩) N N] 181)) by (repeat (first | (with_reducible exact Below.refl _ _) | (with_reducible assumption) | with_reducible apply below_alloc | with_reducible apply pw_below_drewN | with_reducible apply below_drew1))) d0
  go_region_law ((refine step_append_run (by rfl) (.tmp 28) (.tmp 33) (by rfl) _ _ (by rfl) (by rfl) HRUN.out ?_))
  all_goals go_wp2_with (fail)
  all_goals go_ret2
  all_goals exact ⟨_, W0.heap.size, rfl, RDid.pre HB.out DID.out⟩
end Go.Proofs.Ythdnhfjodhjejaa.Ma
