/- The document's machine: New. No condition beyond those each theorem names. And more of the kind: 3 texts in one. -/
import Derived.Test.YtejhnlljddjicaaDoorRGp
import Derived.Test.YtejhnlljddjicaaDoorRGk
import Derived.Test.YtejhnlljddjicaaDoorRGl
import Derived.Deep.RegionLaw
namespace Go.Proofs.YtejhnlljddjicaaDoor.Ma
open Go.RowKit Go.Proofs.YtejhnlljddjicaaDoor.PEm Go.Proofs.YtejhnlljddjicaaDoorW.PrintWords Go.Proofs.YtejhnlljddjicaaDoorW.PrintLast Go.Proofs.YtejhnlljddjicaaDoorW.PrintMore Go.Proofs.YtejhnlljddjicaaDoor.La
set_option linter.unusedVariables false
set_option linter.unusedSimpArgs false
variable {fx : Value × Int} {w w' : World} {c pg : Nat} {ps ps' : Pages} {S S' : Cpu} {inp out inp' out' : List Int}
theorem xcheck_ok {bs : List Int} {code entry : Int} (h : okImg bs.length code entry) : mortiseref21_Check.f bs code entry = some 0 := by
  obtain ⟨h1, h2, h3, h4, h5, h6, h7⟩ := h
  unfold mortiseref21_Check.f
  rw [if_neg (by omega), if_pos ((tmod4 _).2 h2), if_neg (by omega), if_neg (by omega), if_neg (by omega), if_neg (by unfold wrap64; omega), if_pos ((tmod4 _).2 h5)]
theorem xcheck_bad {bs : List Int} {code entry : Int} (h : ¬ okImg bs.length code entry) (hl : bs.length ≤ 9223372036854775807) : mortiseref21_Check.f bs code entry = some 2 := by
  unfold mortiseref21_Check.f
  by_cases h1 : code < 4
  · rw [if_pos h1]
  rw [if_neg h1]
  by_cases h2 : code % 4 = 0
  · rw [if_pos ((tmod4 _).2 h2)]
    by_cases h3 : code > bs.length
    · rw [if_pos h3]
    rw [if_neg h3]
    by_cases h4 : (bs.length : Int) > 1048576
    · rw [if_pos h4]
    rw [if_neg h4]
    by_cases h6 : entry < 4096
    · rw [if_pos h6]
    rw [if_neg h6]
    by_cases h7 : entry > wrap64 (wrap64 (4096 + code) - 4)
    · rw [if_pos h7]
    rw [if_neg h7]
    by_cases h5 : entry % 4 = 0
    · exfalso
      unfold okImg at h
      unfold wrap64 at h7
      omega
    · rw [if_neg (fun q => h5 ((tmod4 _).1 q))]
  · rw [if_neg (fun q => h2 ((tmod4 _).1 q))]
theorem XM.fresh {code : Int} {A : Option Addr} {k : Nat} (hc : w.heap[c]? = some (.cells (xRow pg fx (cpu0 code (.slice A inp.length k))).toArray 62 (0, 0))) (hp : w.heap[pg]? = some (.cells (noPages.map pgVal).toArray 22 (0, 0))) (hne : c ≠ pg) (h4 : 4 ≤ code ∧ code ≤ 1048576)
    (hk : inp.length ≤ k) (hC : Kd.C (Kd.int .u8) w A inp.length inp) (hA : ∀ ad, A = some ad → 0 < inp.length → ad.block ≠ c ∧ ad.block ≠ pg ∧ ad.block < w.heap.size) : XM w c pg fx noPages (cpu0 code (.slice A inp.length k)) inp [] := by
  have hb : blocks noPages = [] := blocks_none 2048
  have hf : foot c pg noPages (cpu0 code (.slice A inp.length k)) = [c, pg] := by unfold foot; rw [hb]; simp [cpu0, Value.ownBlock]
  refine ⟨hc, by simp [cpu0], ?_, by simp [cpu0], h4, hp, List.length_replicate, ?_, ?_, ⟨A, k, rfl, hk, hC, ?_⟩, ⟨0, Kd.R_nil _ _ _ _ _⟩⟩
  · intro v hv
    simp only [cpu0] at hv
    rw [List.eq_of_mem_replicate hv]; omega
  · intro g bs hm
    unfold noPages at hm
    have := List.eq_of_mem_replicate hm
    cases this
  · rw [hf]; simp [hne]
  · intro ad ha h0
    rw [hf]
    obtain ⟨a1, a2, a3⟩ := hA ad ha h0
    exact ⟨by simp [a1, a2], a3⟩
/-- A page that was made beside the machine is put into it. -/
theorem XM.addpage (h : XM w c pg fx ps S inp out) (k : Nat) (hk : ps[k]? = some none) {g : Nat} {bs : List Int} (hg : w.heap[g]? = some (.cells (byteRow bs) 5 (0, 0))) (hl : bs.length = 4096) (hb : ∀ b ∈ bs, 0 ≤ b ∧ b < 256) (hgf : g ∉ foot c pg ps S) (hgi : ∀ A n cp ad, S.inV = .slice A n cp → A = some ad → 0 < inp.length → ad.block ≠ g) :
    XM (w.setCell ⟨pg, k, none⟩ (.slice (some ⟨g, 0, none⟩) 4096 4096)) c pg fx (ps.set k (some (g, bs))) S inp out ∧ (∀ i ∈ foot c pg (ps.set k (some (g, bs))) S, i = g ∨ i ∈ foot c pg ps S) := by
  have hnd := h.nodup
  have xE : Ext (fun i => i = pg) w (w.setCell ⟨pg, k, none⟩ (.slice (some ⟨g, 0, none⟩) 4096 4096)) := Ext.setCell (F := fun i => i = pg) (p := ⟨pg, k, none⟩) (Ext.refl _ _) (Or.inl rfl) _
  have hnp : ∀ i ∈ c :: (blocks ps ++ S.outV.ownBlock.toList), ¬ i = pg := by
    intro i hi e
    subst e
    unfold foot at hnd
    rw [List.nodup_cons] at hnd
    rcases List.mem_cons.1 hi with e | e
    · exact hnd.1 (e ▸ List.mem_cons_self)
    · exact (List.nodup_cons.1 hnd.2).1 e
  have hgp : ¬ g = pg := fun e => hgf (by rw [e]; simp [foot])
  have hperm : (foot c pg (ps.set k (some (g, bs))) S).Perm (g :: foot c pg ps S) := by
    unfold foot
    have h1 := (blocks_set ps k g bs hk).append_right S.outV.ownBlock.toList
    exact ((h1.cons pg).cons c).trans ((List.Perm.cons c (List.Perm.swap _ _ _)).trans (List.Perm.swap _ _ _))
  refine ⟨⟨xE.at h.head (hnp c (by simp)), h.nreg, h.regIn, h.pcIn, h.codeIn, ?_, by simp [h.npg], ?_, ?_, ?_, ?_⟩, fun i hi => ?_⟩
  · refine blk_put h.pages k _ ?_
    apply Array.ext'
    simp [List.map_set, pgVal]
  · intro g' bs' hm
    rcases List.mem_or_eq_of_mem_set hm with hm | hm
    · obtain ⟨h1, h2⟩ := h.page g' bs' hm
      refine ⟨xE.at h1 (hnp g' ?_), h2⟩
      simp only [List.mem_cons, List.mem_append, blocks, List.mem_filterMap]
      exact .inr (.inl ⟨_, hm, rfl⟩)
    · simp only [Option.some.injEq, Prod.mk.injEq] at hm
      obtain ⟨rfl, rfl⟩ := hm
      exact ⟨xE.at hg hgp, hl, hb⟩
  · refine hperm.nodup_iff.2 (List.nodup_cons.2 ⟨hgf, hnd⟩)
  · obtain ⟨A, cap, e1, hl, hC, hA⟩ := h.inS
    refine ⟨A, cap, e1, hl, ?_, fun ad ha h0 => ⟨fun hi => ?_, Nat.lt_of_lt_of_le (hA ad ha h0).2 xE.size⟩⟩
    · refine ⟨hC.1, hC.2.1, fun h0 => ?_⟩
      obtain ⟨ad, ha, hx⟩ := hC.2.2 h0
      refine ⟨ad, ha, fun j p hj => ?_⟩
      obtain ⟨cs, h1, h2, h3⟩ := hx j p hj
      refine ⟨cs, h1, h2, fun q v hq => ?_⟩
      have hb := xE.block ad.block (hA ad ha h0).2 (fun e2 => (hA ad ha h0).1 (by rw [e2]; simp [foot]))
      have := h3 q v hq
      have hbl : (ad.add (j * (Kd.int .u8).sz + q)).block = ad.block := by unfold Addr.add; split <;> rfl
      unfold World.cell? at this ⊢
      rw [hbl] at this ⊢
      rw [hb]; exact this
    · rcases List.mem_cons.1 (hperm.mem_iff.1 hi) with e | e
      · exact hgi A _ _ ad e1 ha h0 e
      · exact (hA ad ha h0).1 e
  · obtain ⟨base, hR⟩ := h.outS
    refine ⟨base, Kd.R_mono (Kd.R_step (Kd.R_tight rfl hR) (fun j hj hlt => xE.block j hlt (hnp j ?_))) (fun _ _ => trivial)⟩
    simp only [List.mem_cons, List.mem_append]
    exact .inr (.inr (by simp [← hj]))
  · exact List.mem_cons.1 (hperm.mem_iff.1 hi)
/-- A page of the image: its bytes, noughts behind them. -/
def pgRow (xs : List Int) : List Int := xs ++ List.replicate (4096 - xs.length) 0
theorem pgRow_len (xs : List Int) (h : xs.length ≤ 4096) : (pgRow xs).length = 4096 := by unfold pgRow; simp; omega
theorem pgRow_get (xs : List Int) (i : Nat) (hi : i < 4096) : ((pgRow xs)[i]?).getD 0 = (xs[i]?).getD 0 := by
  unfold pgRow
  rw [List.getElem?_append]
  split
  · rfl
  · next h =>
    rw [List.getElem?_replicate]
    rw [List.getElem?_eq_none (by omega)]
    split <;> rfl
theorem pgRow_snoc (xs : List Int) (v : Int) (h : xs.length < 4096) : pgRow (xs ++ [v]) = (pgRow xs).set xs.length v := by
  unfold pgRow
  rw [List.set_append_right _ _ (Nat.le_refl _), Nat.sub_self]
  obtain ⟨m, hm⟩ : ∃ m, 4096 - xs.length = m + 1 := ⟨4096 - xs.length - 1, by omega⟩
  rw [hm, List.length_append, show 4096 - (xs.length + [v].length) = m by simp; omega, List.replicate_succ, List.set_cons_zero]
  simp
theorem pgRow_in (xs : List Int) (h : ∀ b ∈ xs, 0 ≤ b ∧ b < 256) : ∀ b ∈ pgRow xs, 0 ≤ b ∧ b < 256 := by
  intro b hb
  unfold pgRow at hb
  rcases List.mem_append.1 hb with e | e
  · exact h b e
  · rw [List.eq_of_mem_replicate e]; omega
theorem byte_page {ps : Pages} {k g : Nat} {xs : List Int} (hk : k < ps.length) (a : Nat) : byteAt (ps.set k (some (g, pgRow xs))) a = if a / 4096 = k then (xs[a % 4096]?).getD 0 else byteAt ps a := by
  unfold byteAt
  by_cases e : a / 4096 = k
  · rw [if_pos e, e, List.getElem?_set_self hk]
    exact pgRow_get xs _ (Nat.mod_lt _ (by decide))
  · rw [if_neg e, List.getElem?_set_ne (fun h => e h.symm)]
theorem laid_page {bs : List Int} {q L g : Nat} {ps : Pages} (hk : q + 1 < ps.length) (hL : min 4096 (bs.length - 4096 * q) = L) (h : ∀ a, byteAt ps a = laidF (fun _ => 0) 4096 (bs.take (4096 * q)) a) (a : Nat) :
    byteAt (ps.set (q + 1) (some (g, pgRow ((bs.drop (4096 * q)).take L)))) a = laidF (fun _ => 0) 4096 (bs.take (4096 * (q + 1))) a := by
  rw [byte_page hk]
  by_cases e : a / 4096 = q + 1
  · rw [if_pos e, List.getElem?_take, List.getElem?_drop]
    unfold laidF
    have e2 : a - 4096 = 4096 * q + a % 4096 := by omega
    rw [List.length_take, List.getElem?_take, e2]
    by_cases h1 : 4096 * q + a % 4096 < bs.length
    · rw [if_pos (by omega), if_pos (by omega), if_pos (by omega)]
    · rw [if_neg (by omega), if_neg (by omega)]; rfl
  · rw [if_neg e, h]
    unfold laidF
    rw [List.length_take, List.length_take, List.getElem?_take, List.getElem?_take]
    by_cases h1 : 4096 ≤ a ∧ a < 4096 + min (4096 * q) bs.length
    · rw [if_pos h1, if_pos (by omega), if_pos (by omega), if_pos (by omega)]
    · rw [if_neg h1, if_neg (by omega)]
theorem take_snoc {xs : List Int} {j : Nat} {v : Int} (h : xs[j]? = some v) : xs.take (j + 1) = xs.take j ++ [v] := by
  rw [List.take_add_one, h]; rfl
set_option maxHeartbeats 4000000 in
set_option maxRecDepth 100000 in
theorem xnew_no (w : World) (A : Option Addr) (k : Nat) (bs : List Int) (code entry : Int) (iv : Value) (hC : Kd.C (Kd.int .u8) w A bs.length bs) (hk : bs.length ≤ k) (ho : ¬ okImg bs.length code entry) :
    Calls Tryd.prog 21 #[.agg #[.slice A bs.length k, .int .i64 code, .int .i64 entry], iv] w fun e w' => e = .returned (.tuple #[.pointer none, .int .i64 2]) ∧ Below w.heap.size w w' := by
  have HO := Aside0.mk (xcheck_bad ho hC.2.1)
  clear ho
  have B0 := Aside0.mk (show Below w.heap.size w (w.alloc (.cells #[.slice A bs.length k, .int .i64 code, .int .i64 entry] 24)) from below_alloc (Below.refl _ _) _)
  have R0 := Aside0.mk (show (w.alloc (.cells #[.slice A bs.length k, .int .i64 code, .int .i64 entry] 24)).heap[w.heap.size]? = some (.cells #[.slice A bs.length k, .int .i64 code, .int .i64 entry] 24 (0, 0)) from heap_at _ _ _ rfl)
  have HC := Aside0.mk hC
  have HK := Aside0.mk hk
  clear hC hk
  go_enter Tryd.func21, Tryd.ntmps21
  go_upto_region 1 with (fail)
  generalize w.alloc (.cells #[.slice A bs.length k, .int .i64 code, .int .i64 entry] 24) = W0 at B0 R0 ⊢
  generalize hg2 : w.heap.size = g2 at R0 ⊢
  have c0 := (blk_cell R0.out 0).trans rfl
  have c1 := (blk_cell R0.out 1).trans rfl
  have c2 := (blk_cell R0.out 2).trans rfl
  go_wp2_with (first | (go_at_call 12; refine (mortiseref21_Check.calls A k bs code entry 2 _ (Kd.C_below HC.out B0.out) HK.out HO.out).mono ?_; rintro e Y ⟨rfl, hb⟩; have BB := Aside0.mk (pm_chain B0.out hb); clear hb))
  go_ret2
  exact ⟨rfl, BB.out⟩
/-- What New makes of an image that may be run. -/
def XMade (w : World) (bs : List Int) (code entry : Int) (inp : List Int) (e : Ending) (w' : World) : Prop :=
  ∃ c pg fx ps S, e = .returned (.tuple #[.pointer (some ⟨c, 0, none⟩), .int .i64 0]) ∧ XM w' c pg fx ps S inp [] ∧ Below w.heap.size w w' ∧ (∀ i ∈ foot c pg ps S, w.heap.size ≤ i) ∧ (∃ iv, S = ⟨code, entry, List.replicate 15 0 ++ [8388608], 0, iv, .slice none 0 0, 0, 0⟩) ∧ ∀ i, byteAt ps i = laidF (fun _ => 0) 4096 bs i
set_option maxHeartbeats 4000000 in
set_option maxRecDepth 100000 in
theorem xnew_yes (w : World) (A : Option Addr) (k : Nat) (bs : List Int) (code entry : Int) (Ai : Option Addr) (ki : Nat) (inp : List Int) (hC : Kd.C (Kd.int .u8) w A bs.length bs) (hk : bs.length ≤ k) (ho : okImg bs.length code entry)
    (hx : ∀ b ∈ bs, 0 ≤ b ∧ b < 256) (hCi : Kd.C (Kd.int .u8) w Ai inp.length inp) (hki : inp.length ≤ ki) :
    Calls Tryd.prog 21 #[.agg #[.slice A bs.length k, .int .i64 code, .int .i64 entry], .slice Ai inp.length ki] w fun e w' => XMade w bs code entry inp e w' := by
  have HO := Aside0.mk (xcheck_ok ho)
  have OK := Aside0.mk ho
  have HX := Aside0.mk hx
  have HCI := Aside0.mk hCi
  have HKI := Aside0.mk hki
  clear ho hx hCi hki
  have B0 := Aside0.mk (show Below w.heap.size w (w.alloc (.cells #[.slice A bs.length k, .int .i64 code, .int .i64 entry] 24)) from below_alloc (Below.refl _ _) _)
  have R0 := Aside0.mk (show (w.alloc (.cells #[.slice A bs.length k, .int .i64 code, .int .i64 entry] 24)).heap[w.heap.size]? = some (.cells #[.slice A bs.length k, .int .i64 code, .int .i64 entry] 24 (0, 0)) from heap_at _ _ _ rfl)
  have HC := Aside0.mk hC
  have HK := Aside0.mk hk
  clear hC hk
  go_enter Tryd.func21, Tryd.ntmps21
  go_upto_region 1 with (fail)
  generalize w.alloc (.cells #[.slice A bs.length k, .int .i64 code, .int .i64 entry] 24) = W0 at B0 R0 ⊢
  generalize hg2 : w.heap.size = g2 at R0 ⊢
  have c0 := (blk_cell R0.out 0).trans rfl
  have c1 := (blk_cell R0.out 1).trans rfl
  have c2 := (blk_cell R0.out 2).trans rfl
  go_upto_region 3 with (first | (go_at_call 12; refine (mortiseref21_Check.calls A k bs code entry 0 _ (Kd.C_below HC.out B0.out) HK.out HO.out).mono ?_; rintro e Y ⟨rfl, hb⟩; have BB := Aside0.mk (pm_chain B0.out hb); have RR := Aside0.mk (blk_below R0.out hb); clear hb R0 B0 c0 c1 c2))
  have hmk := run_make53
  have c0 := (blk_cell RR.out 0).trans rfl
  have c1 := (blk_cell RR.out 1).trans rfl
  have c2 := (blk_cell RR.out 2).trans rfl
  have BA := Aside0.mk (show Below Y.heap.size Y (Y.alloc (.cells (noPages.map pgVal).toArray 22)).drew from (below_alloc (Below.refl _ _) _).drew)
  have a0 := pw_cell_below BA.out c0
  have a1 := pw_cell_below BA.out c1
  have a2 := pw_cell_below BA.out c2
  generalize hnp : (noPages.map pgVal).toArray = NPG at hmk BA a0 a1 a2 ⊢
  have HNP := Aside0.mk hnp
  clear hnp
  have XF := Aside0.mk (show XM ((Y.alloc (.cells NPG 22)).alloc (.cells (xRow Y.heap.size (.slice A bs.length k, entry) (cpu0 code (.slice Ai inp.length ki))).toArray 62)) (Y.heap.size + 1) Y.heap.size (.slice A bs.length k, entry) noPages (cpu0 code (.slice Ai inp.length ki)) inp [] by
    refine XM.fresh (heap_at _ _ _ (by simp)) (blk_alloc (by rw [HNP.out]; exact heap_at _ _ _ rfl) _) (by omega) (by have := OK.out; unfold okImg at this; omega) HKI.out (Kd.C_below HCI.out (pm_chain BB.out (below_alloc (below_alloc (Below.refl _ _) _) _))) (fun ad ha h0 => ?_)
    have h1 := C_lt HCI.out h0 ha
    have h2 := BB.out.size
    refine ⟨by omega, by omega, ?_⟩
    first | (simp; done) | (simp; omega))
  go_cut [6] (fun v6 wc => ∃ (c pg : Nat), v6 = .pointer (some ⟨c, 0, none⟩) ∧ Aside0 (XM wc c pg (.slice A bs.length k, entry) noPages (cpu0 code (.slice Ai inp.length ki)) inp []) ∧ Aside0 (Below Y.heap.size Y wc) ∧ Aside0 (Y.heap.size ≤ c ∧ Y.heap.size ≤ pg))
  case first =>
    go_region_law (fail)
    all_goals go_wp2_with (fail)
    all_goals go_meet
    all_goals exact ⟨Y.heap.size + 1, Y.heap.size, rfl, ⟨(XF.out).below (Below.refl _ _).drew⟩, ⟨(below_alloc (below_alloc (Below.refl _ _) _) _).drew⟩, ⟨by omega, Nat.le_refl _⟩⟩
  case rest =>
    obtain ⟨c, pg, rfl, HE, HB, HCP⟩ := hcut
    clear a0 a1 a2 c0 c1 c2 hmk
    have HW := Aside0.mk (pm_chain BB.out HB.out)
    have LN := Aside0.mk (show 0 < bs.length ∧ bs.length ≤ 1048576 ∧ 4096 ≤ entry ∧ entry ≤ 1052672 by have := OK.out; unfold okImg at this; omega)
    have R8 := Aside0.mk (blk_below RR.out HB.out)
    have G2 := Aside0.mk (show g2 < wc.heap.size ∧ g2 ≠ c ∧ g2 ≠ pg from by
      have h1 := lt_of_at RR.out
      have h2 := HCP.out
      have h3 := HB.out.size
      exact ⟨by omega, by omega, by omega⟩)
    have hfo : ∀ i ∈ foot c pg noPages (cpu0 code (.slice Ai inp.length ki)), i = c ∨ i = pg := by
      intro i hi
      unfold foot at hi
      rw [show blocks noPages = [] from blocks_none 2048] at hi
      simpa [cpu0, Value.ownBlock] using hi
    have HIB := Aside0.mk (show ∀ ad, Ai = some ad → 0 < inp.length → ad.block < w.heap.size from fun ad ha h0 => C_lt HCI.out h0 ha)
    obtain ⟨ad, rfl, hsrc⟩ := C_src HC.out (Nat.le_refl _) LN.out.1
    have HADL := Aside0.mk (C_lt HC.out LN.out.1 rfl)
    have HSRC := Aside0.mk hsrc
    clear hsrc
    obtain ⟨M, hM⟩ : ∃ M, (bs.length + 4095) / 4096 = M := ⟨_, rfl⟩
    have HM := Aside0.mk hM
    have HML := Aside0.mk (show M ≤ 257 by have := LN.out; omega)
    go_wp2_with (fail)
    go_loopg [7] M (fun kq v7 wr => ∃ (q : Nat) (ps : Pages), q + kq = M ∧ v7 = .int .i64 ((4096 * q : Nat) : Int) ∧ Aside0 (XM wr c pg (.slice (some ad) bs.length k, entry) ps (cpu0 code (.slice Ai inp.length ki)) inp []) ∧ Aside0 (Below Y.heap.size Y wr) ∧ Aside0 (∀ i ∈ foot c pg ps (cpu0 code (.slice Ai inp.length ki)), Y.heap.size ≤ i) ∧ Aside0 (∀ j, q + 1 ≤ j → j < 2048 → ps[j]? = some none) ∧ Aside0 (∀ a, byteAt ps a = laidF (fun _ => 0) 4096 (bs.take (4096 * q)) a))
    case atStart =>
      refine ⟨0, noPages, by omega, rfl, ⟨HE.out⟩, ⟨HB.out⟩, ⟨fun i hi => ?_⟩, ⟨fun j h1 h2 => ?_⟩, ⟨fun a => ?_⟩⟩
      · have := HCP.out
        rcases hfo i hi with e | e <;> omega
      · unfold noPages; rw [List.getElem?_replicate, if_pos h2]
      · rw [byte_no]; unfold laidF; rw [if_neg (by rw [Nat.mul_zero, List.take_zero]; simp only [List.length_nil]; omega)]
    case round =>
      clear hfo HE HB HW
      obtain ⟨q, ps, hq, rfl, HE, HB, HFO, HNO, HBY⟩ := hrel
      have HQ := Aside0.mk hq
      have RB := Aside0.mk (blk_below RR.out HB.out)
      have b0 := (blk_cell RB.out 0).trans rfl
      by_cases hlt : 4096 * q < bs.length
      · have hlt2 : ((4096 * q : Nat) : Int) < (bs.length : Int) := by omega
        have HL := Aside0.mk hlt
        have hmk : ∀ W, (Instr.makeSlice 22 (.int .i64 4096) (.int .i64 4096)).run Tryd.prog W = .ok (.slice (some ⟨W.heap.size, 0, none⟩) 4096 4096) (W.alloc (.cells (byteRow zpage) 5)) := fun W => run_make5 4096 (by decide) (by decide) W
        clear hq hlt hM
        obtain ⟨iq, hiq⟩ : ∃ iq, 4096 * q = iq := ⟨_, rfl⟩
        have HIQ := Aside0.mk hiq
        rw [hiq] at hlt2 HL HBY ⊢
        clear hiq
        obtain ⟨L, hL⟩ : ∃ L, min 4096 (bs.length - iq) = L := ⟨_, rfl⟩
        have HLL := Aside0.mk hL
        clear hL
        have G5 := Aside0.mk (show (wr.alloc (.cells (byteRow zpage) 5)).heap[wr.heap.size]? = some (.cells (byteRow zpage) 5 (0, 0)) from heap_at _ _ _ rfl)
        have B5 := Aside0.mk (show Below wr.heap.size wr (wr.alloc (.cells (byteRow zpage) 5)) from below_alloc (Below.refl _ _) _)
        go_upto_region 8 with (fail)
        clear hmk b0
        generalize hg : wr.heap.size = g at G5 B5 ⊢
        have HG := Aside0.mk hg
        clear hg
        generalize wr.alloc (.cells (byteRow zpage) 5) = W5 at G5 B5 ⊢
        go_wp2_with (fail)
        go_loopg [9] L (fun kq2 v9 wi => ∃ (j : Nat), j + kq2 = L ∧ v9 = .int .i64 (j : Int) ∧ Aside0 (wi.heap[g]? = some (.cells (byteRow (pgRow ((bs.drop iq).take j))) 5 (0, 0))) ∧ Aside0 (Below wr.heap.size wr wi))
        case atStart => exact ⟨0, by omega, rfl, ⟨G5.out⟩, ⟨by rw [HG.out]; exact B5.out⟩⟩
        case round =>
          obtain ⟨j, hj, rfl, GI, BI⟩ := hrel
          have HJ := Aside0.mk hj
          have RI := Aside0.mk (blk_below RB.out BI.out)
          have b0 := (blk_cell RI.out 0).trans rfl
          by_cases hlt3 : j < L
          · have HL3 := Aside0.mk hlt3
            have HL4 := Aside0.mk (show j < 4096 ∧ iq + j < bs.length by have := HLL.out; omega)
            have h4 : (j : Int) < 4096 := by have := HL4.out; omega
            have hwi : IntKind.i64.wrap ((iq : Int) + (j : Int)) = ((iq + j : Nat) : Int) := by rw [IntWalk.i64_in _ (by have := HL4.out; have := LN.out; omega)]; omega
            have h5 : ((iq + j : Nat) : Int) < (bs.length : Int) := by have := HL4.out; omega
            have hw1 : IntKind.i64.wrap ((j : Int) + 1) = ((j + 1 : Nat) : Int) := by rw [IntWalk.i64_in _ (by have := HL4.out; omega)]; omega
            obtain ⟨v, hv⟩ : ∃ v, bs[iq + j]? = some v := ⟨_, List.getElem?_eq_getElem HL4.out.2⟩
            have HV := Aside0.mk hv
            have hsrc : wr.cell? (ad.add (iq + j)) = some (.int .u8 v) := by
              refine pw_cell_below (pm_chain (pm_chain BB.out HB.out) BI.out) (HSRC.out (iq + j) _ ?_)
              rw [List.take_length, List.getElem?_map, hv]; rfl
            have gc := byte_row GI.out (show j < _ by rw [pgRow_len _ (by rw [List.length_take]; have := HL4.out; omega)]; exact HL4.out.1)
            have fz := blk_frozen GI.out j
            generalize (((pgRow ((bs.drop iq).take j))[j]?).getD 0) = old at gc
            clear hj hlt3 hv
            go_wp2_with (fail)
            go_roundg (L - (j + 1))
            case measure => have := HJ.out; have := HL3.out; omega
            case rel =>
              have hxs : ((bs.drop iq).take j).length = j := by rw [List.length_take, List.length_drop]; have := HL4.out; omega
              have hsn : (bs.drop iq).take (j + 1) = (bs.drop iq).take j ++ [v] := take_snoc (by rw [List.getElem?_drop]; exact HV.out)
              refine ⟨j + 1, by have := HJ.out; have := HL3.out; omega, by simp, ⟨?_⟩, ⟨BI.out.setCell (p := ⟨g, j, none⟩) (Nat.le_of_eq HG.out) _⟩⟩
              rw [hsn, pgRow_snoc _ _ (by rw [hxs]; exact HL4.out.1), hxs]
              refine blk_put GI.out j _ ?_
              apply Array.ext'
              simp [byteRow, List.map_set]
          · have hjL : j = L := by omega
            subst hjL
            have HEI := Aside0.mk (HE.out.below BI.out)
            have QB := Aside0.mk (show q + 1 < 2048 by have := HIQ.out; have := HL.out; have := LN.out; omega)
            have kpg := HEI.out.kpg
            have kq := HEI.out.pgcell (q + 1)
            rw [HNO.out (q + 1) (Nat.le_refl _) QB.out] at kq
            simp only [Option.map_some, pgVal] at kq
            have fz := blk_frozen HEI.out.pages (q + 1)
            have hw7 : IntKind.i64.wrap (4096 + (iq : Int)) = 4096 + (iq : Int) := IntWalk.i64_in _ (by have := HL.out; have := LN.out; omega)
            have hw8 : IntKind.i64.wrap ((iq : Int) + 4096) = ((4096 * (q + 1) : Nat) : Int) := by rw [IntWalk.i64_in _ (by have := HL.out; have := LN.out; omega)]; have := HIQ.out; omega
            have hdv : Int.tdiv (4096 + (iq : Int)) 4096 = ((q + 1 : Nat) : Int) := by rw [Int.tdiv_eq_ediv_of_nonneg (by omega)]; have := HIQ.out; omega
            have hq48 : ((q + 1 : Nat) : Int) < 2048 := by have := QB.out; omega
            have hfin : ¬ ((j : Int) < 4096) ∨ ((j : Int) < 4096 ∧ ¬ (((iq + j : Nat) : Int) < (bs.length : Int))) := by have := HLL.out; omega
            have hwi : IntKind.i64.wrap ((iq : Int) + (j : Int)) = ((iq + j : Nat) : Int) := by rw [IntWalk.i64_in _ (by have := HLL.out; have := HL.out; have := LN.out; omega)]; omega
            clear hj hlt3
            rcases hfin with h4 | ⟨h4, h5⟩
            · clear hwi
              go_wp2_with (fail)
              go_roundg (M - (q + 1))
              case measure => have := HQ.out; have := HM.out; have := HIQ.out; have := HL.out; omega
              case rel =>
                have AP := HEI.out.addpage (q + 1) (HNO.out (q + 1) (Nat.le_refl _) QB.out) GI.out (pgRow_len _ (by rw [List.length_take]; have := HLL.out; omega)) (pgRow_in _ (fun b hb => HX.out b (List.mem_of_mem_drop (List.mem_of_mem_take hb)))) (fun hm => by have h1 := HE.out.foot_lt _ hm; have h2 := HG.out; omega) (fun A' n' cp' ad' e1 e2 h0 => by
                  injection e1 with e1
                  have h1 := HIB.out ad' (e1.trans e2) h0
                  have h2 := HG.out
                  have h3 := BB.out.size
                  have h4 := HB.out.size
                  omega)
                have hgY : Y.heap.size ≤ g := by have h2 := HG.out; have h4 := HB.out.size; omega
                have hpgY : Y.heap.size ≤ pg := HFO.out pg (by simp [foot])
                refine ⟨q + 1, _, by have := HQ.out; have := HM.out; have := HIQ.out; have := HL.out; omega, by simp, ⟨AP.1⟩, ⟨(pm_chain HB.out BI.out).setCell (p := ⟨pg, q + 1, none⟩) hpgY _⟩, ⟨fun i hi => ?_⟩, ⟨fun j' h1 h2 => ?_⟩, ⟨?_⟩⟩
                · rcases AP.2 i hi with e | e
                  · rw [e]; exact hgY
                  · exact HFO.out i e
                · rw [List.getElem?_set_ne (by omega)]
                  exact HNO.out j' (by omega) h2
                · have hb4 := HBY.out
                  rw [← HIQ.out] at hb4
                  have h5 := laid_page (g := g) (L := j) (by rw [HE.out.npg]; exact QB.out) (by rw [HIQ.out]; exact HLL.out) hb4
                  rw [HIQ.out] at h5
                  exact h5
            · clear hw7
              have hw7 : IntKind.i64.wrap (4096 + (iq : Int)) = 4096 + (iq : Int) := IntWalk.i64_in _ (by have := HL.out; have := LN.out; omega)
              go_wp2_with (fail)
              go_roundg (M - (q + 1))
              case measure => have := HQ.out; have := HM.out; have := HIQ.out; have := HL.out; omega
              case rel =>
                have AP := HEI.out.addpage (q + 1) (HNO.out (q + 1) (Nat.le_refl _) QB.out) GI.out (pgRow_len _ (by rw [List.length_take]; have := HLL.out; omega)) (pgRow_in _ (fun b hb => HX.out b (List.mem_of_mem_drop (List.mem_of_mem_take hb)))) (fun hm => by have h1 := HE.out.foot_lt _ hm; have h2 := HG.out; omega) (fun A' n' cp' ad' e1 e2 h0 => by
                  injection e1 with e1
                  have h1 := HIB.out ad' (e1.trans e2) h0
                  have h2 := HG.out
                  have h3 := BB.out.size
                  have h4 := HB.out.size
                  omega)
                have hgY : Y.heap.size ≤ g := by have h2 := HG.out; have h4 := HB.out.size; omega
                have hpgY : Y.heap.size ≤ pg := HFO.out pg (by simp [foot])
                refine ⟨q + 1, _, by have := HQ.out; have := HM.out; have := HIQ.out; have := HL.out; omega, by simp, ⟨AP.1⟩, ⟨(pm_chain HB.out BI.out).setCell (p := ⟨pg, q + 1, none⟩) hpgY _⟩, ⟨fun i hi => ?_⟩, ⟨fun j' h1 h2 => ?_⟩, ⟨?_⟩⟩
                · rcases AP.2 i hi with e | e
                  · rw [e]; exact hgY
                  · exact HFO.out i e
                · rw [List.getElem?_set_ne (by omega)]
                  exact HNO.out j' (by omega) h2
                · have hb4 := HBY.out
                  rw [← HIQ.out] at hb4
                  have h5 := laid_page (g := g) (L := j) (by rw [HE.out.npg]; exact QB.out) (by rw [HIQ.out]; exact HLL.out) hb4
                  rw [HIQ.out] at h5
                  exact h5
      · have hlt2 : ¬ ((4096 * q : Nat) : Int) < (bs.length : Int) := by omega
        have HT := Aside0.mk (show bs.take (4096 * q) = bs from List.take_of_length_le (by omega))
        clear hq hlt hM
        obtain ⟨iq, hiq⟩ : ∃ iq, 4096 * q = iq := ⟨_, rfl⟩
        rw [hiq] at hlt2 HBY HT ⊢
        clear hiq
        have b2 := (blk_cell RB.out 2).trans rfl
        have f5 := HE.out.fz 5
        have k5 := HE.out.kpc
        have hw : IntKind.u32.wrap entry = entry := by rw [IntKind.wrap_u32]; have := LN.out; omega
        go_upto_region 14 with (fail)
        have D6 := Aside0.mk (HE.out.set_pc entry (by have := LN.out; omega) (by have := LN.out; omega))
        generalize wr.setCell ⟨c, 5, none⟩ (.int .u32 entry) = W6 at D6 ⊢
        clear b0 b2 f5 k5 hw
        have k21 := D6.out.em.kr (a := 15) (v := 0) rfl
        have f21 := D6.out.em.fz (6 + 15)
        go_wp2_with (fail)
        go_ret2
        have D7 := D6.out.trans (D6.out.em.set_reg 15 (by decide) 8388608 (by decide) (by decide))
        unfold XMade
        refine ⟨c, pg, _, ps, _, rfl, D7.em, ?_, ?_, ⟨.slice Ai inp.length ki, rfl⟩, fun i => ?_⟩
        · refine (pm_chain BB.out HB.out).trans (D7.ext.below_of (pm_chain BB.out HB.out).size (fun i hi => ?_))
          exact Nat.le_trans BB.out.size (HFO.out i hi)
        · intro i hi
          have h3 := BB.out.size
          have h4 := HB.out.size
          rcases D7.new i hi with h5 | h5
          · have := HFO.out i h5; omega
          · omega
        · rw [HBY.out, HT.out]
end Go.Proofs.YtejhnlljddjicaaDoor.Ma
namespace Go.Proofs.YtejhnlljddjicaaDoor.Ma
open Go.RowKit Go.Proofs.YtejhnlljddjicaaDoor.PEm Go.Proofs.YtejhnlljddjicaaDoorW.PrintWords Go.Proofs.YtejhnlljddjicaaDoorW.PrintLast Go.Proofs.YtejhnlljddjicaaDoorW.PrintMore Go.Proofs.YtejhnlljddjicaaDoor.La
set_option linter.unusedVariables false
set_option linter.unusedSimpArgs false
variable {fx : Value × Int} {w w' : World} {c pg : Nat} {ps ps' : Pages} {S S' : Cpu} {inp out inp' out' : List Int}
set_option maxHeartbeats 4000000 in
set_option maxRecDepth 100000 in
theorem xrun_no (w : World) (A : Option Addr) (k : Nat) (bs : List Int) (code entry : Int) (iv : Value) (fuel : Int) (hC : Kd.C (Kd.int .u8) w A bs.length bs) (hk : bs.length ≤ k) (ho : ¬ okImg bs.length code entry) :
    Calls Tryd.prog 9 #[.agg #[.slice A bs.length k, .int .i64 code, .int .i64 entry], iv, .int .i64 fuel] w fun e w' => e = .returned (.tuple #[.agg #[.int .i64 0, .int .i64 0, .slice none 0 0, .int .i64 0], .int .i64 2]) ∧ Below w.heap.size w w' := by
  have HO := Aside0.mk ho
  clear ho
  have B1 := Aside0.mk (show Below w.heap.size w ((w.alloc (.cells #[.slice A bs.length k, .int .i64 code, .int .i64 entry] 24)).alloc (.cells #[.int .i64 0, .int .i64 0, .slice none 0 0, .int .i64 0] 27)) from below_alloc (below_alloc (Below.refl _ _) _) _)
  have R3 := Aside0.mk (show ((w.alloc (.cells #[.slice A bs.length k, .int .i64 code, .int .i64 entry] 24)).alloc (.cells #[.int .i64 0, .int .i64 0, .slice none 0 0, .int .i64 0] 27)).heap[w.heap.size]? = some (.cells #[.slice A bs.length k, .int .i64 code, .int .i64 entry] 24 (0, 0)) from blk_alloc (heap_at _ _ _ rfl) _)
  have R6 := Aside0.mk (show ((w.alloc (.cells #[.slice A bs.length k, .int .i64 code, .int .i64 entry] 24)).alloc (.cells #[.int .i64 0, .int .i64 0, .slice none 0 0, .int .i64 0] 27)).heap[w.heap.size + 1]? = some (.cells #[.int .i64 0, .int .i64 0, .slice none 0 0, .int .i64 0] 27 (0, 0)) from heap_at _ _ _ (by simp))
  have HC := Aside0.mk hC
  have HK := Aside0.mk hk
  have G6 := Aside0.mk (show w.heap.size ≤ w.heap.size + 1 by omega)
  clear hC hk
  go_enter Tryd.func9, Tryd.ntmps9
  go_upto_region 1 with (fail)
  generalize (w.alloc (.cells #[.slice A bs.length k, .int .i64 code, .int .i64 entry] 24)).alloc (.cells #[.int .i64 0, .int .i64 0, .slice none 0 0, .int .i64 0] 27) = W1 at B1 R3 R6 ⊢
  generalize hg6 : w.heap.size + 1 = g6 at R6 G6 ⊢
  generalize hg3 : w.heap.size = g3 at R3 ⊢
  clear hg6
  have c0 := (blk_cell R3.out 0).trans rfl
  have c1 := (blk_cell R3.out 1).trans rfl
  have c2 := (blk_cell R3.out 2).trans rfl
  go_wp2_with (first | (go_at_call 21; refine (xnew_no _ A k bs code entry iv (Kd.C_below HC.out B1.out) HK.out HO.out).mono ?_; rintro e Y ⟨rfl, hb⟩; have BB := Aside0.mk (pm_chain B1.out hb); have R7 := Aside0.mk (blk_below R6.out hb); clear hb) | (refine wpList_store_row rfl 27 _ _ rfl g6 _ rfl rfl 27 _ (R7.out) (by as_aux_lemma => kernel_rfl) (by as_aux_lemma => kernel_rfl) (by as_aux_lemma => kernel_rfl) ?_))
  (try simp only [Exit.inBlock, Exit.then])
  refine bodyPost_ret (results_cell2 (p := 6) (q := 7) (ty := 27) rfl _ _ _ _ ⟨g6, 0, none⟩ _ _ (by rfl) (run_loadVar_row _ g6 27 27 _ (0, 0) _ (setRow_heap _ _ _ _ _ _ (R7.out)) Tryd.underlying27 (by rfl) (by kernel_rfl)) (by rfl)) rfl ?_
  exact ⟨rfl, below_setRow BB.out (by have := G6.out; omega) _⟩
set_option maxHeartbeats 4000000 in
set_option maxRecDepth 100000 in
theorem xrun_fuel (w : World) (A : Option Addr) (k : Nat) (bs : List Int) (code entry : Int) (Ai : Option Addr) (ki : Nat) (inp : List Int) (fuel : Int) (hC : Kd.C (Kd.int .u8) w A bs.length bs) (hk : bs.length ≤ k) (ho : okImg bs.length code entry)
    (hx : ∀ b ∈ bs, 0 ≤ b ∧ b < 256) (hCi : Kd.C (Kd.int .u8) w Ai inp.length inp) (hi : inp.length ≤ ki) (hf : fuel < 1 ∨ fuel > 4194304) :
    Calls Tryd.prog 9 #[.agg #[.slice A bs.length k, .int .i64 code, .int .i64 entry], .slice Ai inp.length ki, .int .i64 fuel] w fun e w' => e = .returned (.tuple #[.agg #[.int .i64 0, .int .i64 0, .slice none 0 0, .int .i64 0], .int .i64 2]) ∧ Below w.heap.size w w' := by
  have HO := Aside0.mk ho
  have HX := Aside0.mk hx
  have HCI := Aside0.mk hCi
  have HI := Aside0.mk hi
  by_cases h1 : fuel < 1
  · clear ho hx hCi hi hf
    have B1 := Aside0.mk (show Below w.heap.size w ((w.alloc (.cells #[.slice A bs.length k, .int .i64 code, .int .i64 entry] 24)).alloc (.cells #[.int .i64 0, .int .i64 0, .slice none 0 0, .int .i64 0] 27)) from below_alloc (below_alloc (Below.refl _ _) _) _)
    have R3 := Aside0.mk (show ((w.alloc (.cells #[.slice A bs.length k, .int .i64 code, .int .i64 entry] 24)).alloc (.cells #[.int .i64 0, .int .i64 0, .slice none 0 0, .int .i64 0] 27)).heap[w.heap.size]? = some (.cells #[.slice A bs.length k, .int .i64 code, .int .i64 entry] 24 (0, 0)) from blk_alloc (heap_at _ _ _ rfl) _)
    have R6 := Aside0.mk (show ((w.alloc (.cells #[.slice A bs.length k, .int .i64 code, .int .i64 entry] 24)).alloc (.cells #[.int .i64 0, .int .i64 0, .slice none 0 0, .int .i64 0] 27)).heap[w.heap.size + 1]? = some (.cells #[.int .i64 0, .int .i64 0, .slice none 0 0, .int .i64 0] 27 (0, 0)) from heap_at _ _ _ (by simp))
    have HC := Aside0.mk hC
    have HK := Aside0.mk hk
    have G6 := Aside0.mk (show w.heap.size ≤ w.heap.size + 1 by omega)
    clear hC hk
    go_enter Tryd.func9, Tryd.ntmps9
    go_upto_region 1 with (fail)
    generalize (w.alloc (.cells #[.slice A bs.length k, .int .i64 code, .int .i64 entry] 24)).alloc (.cells #[.int .i64 0, .int .i64 0, .slice none 0 0, .int .i64 0] 27) = W1 at B1 R3 R6 ⊢
    generalize hg6 : w.heap.size + 1 = g6 at R6 G6 ⊢
    generalize hg3 : w.heap.size = g3 at R3 ⊢
    clear hg6
    have c0 := (blk_cell R3.out 0).trans rfl
    have c1 := (blk_cell R3.out 1).trans rfl
    have c2 := (blk_cell R3.out 2).trans rfl
    go_wp2_with (first | (go_at_call 21; refine (xnew_yes _ A k bs code entry Ai ki inp (Kd.C_below HC.out B1.out) HK.out HO.out HX.out (Kd.C_below HCI.out B1.out) HI.out).mono ?_; rintro e Y ⟨c, pg, fx, ps, S, rfl, hem, hb, hfo, hS, hby⟩; have BB := Aside0.mk (pm_chain B1.out hb); have R7 := Aside0.mk (blk_below R6.out hb); clear hem hb hfo hS hby) | (refine wpList_store_row rfl 27 _ _ rfl g6 _ rfl rfl 27 _ (R7.out) (by as_aux_lemma => kernel_rfl) (by as_aux_lemma => kernel_rfl) (by as_aux_lemma => kernel_rfl) ?_))
    (try simp only [Exit.inBlock, Exit.then])
    refine bodyPost_ret (results_cell2 (p := 6) (q := 7) (ty := 27) rfl _ _ _ _ ⟨g6, 0, none⟩ _ _ (by rfl) (run_loadVar_row _ g6 27 27 _ (0, 0) _ (setRow_heap _ _ _ _ _ _ (R7.out)) Tryd.underlying27 (by rfl) (by kernel_rfl)) (by rfl)) rfl ?_
    exact ⟨rfl, below_setRow BB.out (by have := G6.out; omega) _⟩
  · have h2 : fuel > 4194304 := by omega
    clear ho hx hCi hi hf
    have B1 := Aside0.mk (show Below w.heap.size w ((w.alloc (.cells #[.slice A bs.length k, .int .i64 code, .int .i64 entry] 24)).alloc (.cells #[.int .i64 0, .int .i64 0, .slice none 0 0, .int .i64 0] 27)) from below_alloc (below_alloc (Below.refl _ _) _) _)
    have R3 := Aside0.mk (show ((w.alloc (.cells #[.slice A bs.length k, .int .i64 code, .int .i64 entry] 24)).alloc (.cells #[.int .i64 0, .int .i64 0, .slice none 0 0, .int .i64 0] 27)).heap[w.heap.size]? = some (.cells #[.slice A bs.length k, .int .i64 code, .int .i64 entry] 24 (0, 0)) from blk_alloc (heap_at _ _ _ rfl) _)
    have R6 := Aside0.mk (show ((w.alloc (.cells #[.slice A bs.length k, .int .i64 code, .int .i64 entry] 24)).alloc (.cells #[.int .i64 0, .int .i64 0, .slice none 0 0, .int .i64 0] 27)).heap[w.heap.size + 1]? = some (.cells #[.int .i64 0, .int .i64 0, .slice none 0 0, .int .i64 0] 27 (0, 0)) from heap_at _ _ _ (by simp))
    have HC := Aside0.mk hC
    have HK := Aside0.mk hk
    have G6 := Aside0.mk (show w.heap.size ≤ w.heap.size + 1 by omega)
    clear hC hk
    go_enter Tryd.func9, Tryd.ntmps9
    go_upto_region 1 with (fail)
    generalize (w.alloc (.cells #[.slice A bs.length k, .int .i64 code, .int .i64 entry] 24)).alloc (.cells #[.int .i64 0, .int .i64 0, .slice none 0 0, .int .i64 0] 27) = W1 at B1 R3 R6 ⊢
    generalize hg6 : w.heap.size + 1 = g6 at R6 G6 ⊢
    generalize hg3 : w.heap.size = g3 at R3 ⊢
    clear hg6
    have c0 := (blk_cell R3.out 0).trans rfl
    have c1 := (blk_cell R3.out 1).trans rfl
    have c2 := (blk_cell R3.out 2).trans rfl
    go_wp2_with (first | (go_at_call 21; refine (xnew_yes _ A k bs code entry Ai ki inp (Kd.C_below HC.out B1.out) HK.out HO.out HX.out (Kd.C_below HCI.out B1.out) HI.out).mono ?_; rintro e Y ⟨c, pg, fx, ps, S, rfl, hem, hb, hfo, hS, hby⟩; have BB := Aside0.mk (pm_chain B1.out hb); have R7 := Aside0.mk (blk_below R6.out hb); clear hem hb hfo hS hby) | (refine wpList_store_row rfl 27 _ _ rfl g6 _ rfl rfl 27 _ (R7.out) (by as_aux_lemma => kernel_rfl) (by as_aux_lemma => kernel_rfl) (by as_aux_lemma => kernel_rfl) ?_))
    (try simp only [Exit.inBlock, Exit.then])
    refine bodyPost_ret (results_cell2 (p := 6) (q := 7) (ty := 27) rfl _ _ _ _ ⟨g6, 0, none⟩ _ _ (by rfl) (run_loadVar_row _ g6 27 27 _ (0, 0) _ (setRow_heap _ _ _ _ _ _ (R7.out)) Tryd.underlying27 (by rfl) (by kernel_rfl)) (by rfl)) rfl ?_
    exact ⟨rfl, below_setRow BB.out (by have := G6.out; omega) _⟩
theorem xstep_q {r : Ran} {a b : Value} (h : XM w c pg fx ps (reV r.S a b) r.inp r.out) (hm : byteAt ps = r.m) (hst : 0 ≤ r.S.steps ∧ r.S.steps < 4611686018427387904) (hin : ∀ v ∈ r.inp, 0 ≤ v ∧ v < 256) (hout : r.out.length + 1 ≤ 140737488355328) :
    Calls Tryd.prog 22 #[.pointer (some ⟨c, 0, none⟩)] w fun e w' => e = .returned (.int .i64 (stepM r.m r.S r.inp r.out).S.ended) ∧ ∃ iv ov ps', XDid w w' c pg fx ps (reV r.S a b) ps' (reV (stepM r.m r.S r.inp r.out).S iv ov) (stepM r.m r.S r.inp r.out).inp (stepM r.m r.S r.inp r.out).out ∧ byteAt ps' = (stepM r.m r.S r.inp r.out).m := by
  have e : stepM (byteAt ps) (reV r.S a b) r.inp r.out = (stepM r.m r.S r.inp r.out).reV a b := by rw [hm, step_v]
  refine (xstep_calls h hst hin hout).mono ?_
  rintro e' w' ⟨rfl, hd⟩
  rw [e] at hd ⊢
  obtain ⟨iv, ov, ps', D, hb⟩ := hd
  exact ⟨rfl, iv, ov, ps', D, funext hb⟩
set_option maxHeartbeats 4000000 in
set_option maxRecDepth 100000 in
theorem xrun_yes (w : World) (A : Option Addr) (k : Nat) (bs : List Int) (code entry : Int) (Ai : Option Addr) (ki : Nat) (inp : List Int) (F : Nat) (hC : Kd.C (Kd.int .u8) w A bs.length bs) (hk : bs.length ≤ k) (ho : okImg bs.length code entry)
    (hx : ∀ b ∈ bs, 0 ≤ b ∧ b < 256) (hCi : Kd.C (Kd.int .u8) w Ai inp.length inp) (hi : inp.length ≤ ki) (hxi : ∀ b ∈ inp, 0 ≤ b ∧ b < 256) (hf : 1 ≤ F ∧ F ≤ 4194304) :
    Calls Tryd.prog 9 #[.agg #[.slice A bs.length k, .int .i64 code, .int .i64 entry], .slice Ai inp.length ki, .int .i64 F] w fun e w' => ∃ v, e = .returned (.tuple #[.agg #[.int .i64 (stopOf (runM F (startR bs code entry inp))), .int .i64 (runM F (startR bs code entry inp)).S.exit, v, .int .i64 (runM F (startR bs code entry inp)).S.steps], .int .i64 0]) ∧ Kd.R (Kd.int .u8) 5 w' w.heap.size (fun _ => True) v (runM F (startR bs code entry inp)).out ∧ Below w.heap.size w w' := by
  obtain ⟨RR, hRR⟩ : ∃ RR, runM F (startR bs code entry inp) = RR := ⟨_, rfl⟩
  rw [hRR]
  have HRR := Aside0.mk hRR
  have HO := Aside0.mk ho
  have HX := Aside0.mk hx
  have HCI := Aside0.mk hCi
  have HI := Aside0.mk hi
  have HXI := Aside0.mk hxi
  have HF := Aside0.mk hf
  have f1 : ¬ ((F : Int) < 1) := by omega
  have f2 : ¬ ((F : Int) > 4194304) := by omega
  clear ho hx hCi hi hxi hf hRR
  have B1 := Aside0.mk (show Below w.heap.size w ((w.alloc (.cells #[.slice A bs.length k, .int .i64 code, .int .i64 entry] 24)).alloc (.cells #[.int .i64 0, .int .i64 0, .slice none 0 0, .int .i64 0] 27)) from below_alloc (below_alloc (Below.refl _ _) _) _)
  have R3 := Aside0.mk (show ((w.alloc (.cells #[.slice A bs.length k, .int .i64 code, .int .i64 entry] 24)).alloc (.cells #[.int .i64 0, .int .i64 0, .slice none 0 0, .int .i64 0] 27)).heap[w.heap.size]? = some (.cells #[.slice A bs.length k, .int .i64 code, .int .i64 entry] 24 (0, 0)) from blk_alloc (heap_at _ _ _ rfl) _)
  have R6 := Aside0.mk (show ((w.alloc (.cells #[.slice A bs.length k, .int .i64 code, .int .i64 entry] 24)).alloc (.cells #[.int .i64 0, .int .i64 0, .slice none 0 0, .int .i64 0] 27)).heap[w.heap.size + 1]? = some (.cells #[.int .i64 0, .int .i64 0, .slice none 0 0, .int .i64 0] 27 (0, 0)) from heap_at _ _ _ (by simp))
  have HC := Aside0.mk hC
  have HK := Aside0.mk hk
  have G6 := Aside0.mk (show w.heap.size ≤ w.heap.size + 1 by omega)
  clear hC hk
  go_enter Tryd.func9, Tryd.ntmps9
  go_upto_region 1 with (fail)
  generalize ((w.alloc (.cells #[.slice A bs.length k, .int .i64 code, .int .i64 entry] 24)).alloc (.cells #[.int .i64 0, .int .i64 0, .slice none 0 0, .int .i64 0] 27)) = W1 at B1 R3 R6 ⊢
  generalize hg6 : w.heap.size + 1 = g6 at R6 G6 ⊢
  generalize hg3 : w.heap.size = g3 at R3 ⊢
  clear hg6
  have c0 := (blk_cell R3.out 0).trans rfl
  have c1 := (blk_cell R3.out 1).trans rfl
  have c2 := (blk_cell R3.out 2).trans rfl
  have HG3 := Aside0.mk hg3
  go_upto_region 6 with (first | (go_at_call 21; refine (xnew_yes _ A k bs code entry Ai ki inp (Kd.C_below HC.out B1.out) HK.out HO.out HX.out (Kd.C_below HCI.out B1.out) HI.out).mono ?_; rintro e Y ⟨c, pg, fx, ps, S, rfl, hem, hb, hfo, hS, hby⟩; have BB := Aside0.mk (pm_chain B1.out hb); have R7 := Aside0.mk (blk_below R6.out hb)))
  clear c0 c1 c2 f1 f2
  have Y0 := Aside0.mk hem
  have YF := Aside0.mk hfo
  have YS := Aside0.mk hS
  have YB := Aside0.mk hby
  have Bb := Aside0.mk hb
  clear hem hfo hS hby hb
  have L6 := Aside0.mk (lt_of_at R6.out)
  go_wp2_with (fail)
  go_loopg [] F (fun kq wr => ∃ (j : Nat) (r : Ran) (psj : Pages) (a b : Value), j + kq = F ∧ Aside0 (XM wr c pg fx psj (reV r.S a b) r.inp r.out) ∧ Aside0 (Below W1.heap.size W1 wr) ∧ Aside0 (∀ i ∈ foot c pg psj (reV r.S a b), W1.heap.size ≤ i) ∧ Aside0 (byteAt psj = r.m) ∧ Aside0 (r.S.steps = j ∧ r.out.length ≤ j) ∧ Aside0 (∀ v ∈ r.inp, 0 ≤ v ∧ v < 256) ∧ Aside0 (runM kq r = RR))
  case atStart =>
    obtain ⟨iv, hiv⟩ := YS.out
    subst hiv
    exact ⟨0, startR bs code entry inp, ps, iv, .slice none 0 0, by omega, ⟨Y0.out⟩, ⟨Bb.out⟩, ⟨YF.out⟩, ⟨funext YB.out⟩, ⟨rfl, Nat.le_refl 0⟩, ⟨HXI.out⟩, ⟨HRR.out⟩⟩
  case round =>
    obtain ⟨j, r, psj, a, b, hj, HE, HB, HFO, HM, HS, HIN, HRJ⟩ := hrel
    have R8 := Aside0.mk (blk_below R6.out HB.out)
    have kend : wr.cell? ⟨c, 24, none⟩ = some (.int .i64 r.S.ended) := HE.out.kend
    have kst : wr.cell? ⟨c, 22, none⟩ = some (.int .i64 (j : Int)) := HE.out.kst.trans (by rw [← HS.out.1]; rfl)
    have f24 := HE.out.fz 24
    by_cases hz : r.S.ended = 0
    · rw [hz] at kend
      have HZ := Aside0.mk hz
      clear hz
      by_cases hlt : j < F
      · have hlt2 : (j : Int) < (F : Int) := by omega
        have HJ := Aside0.mk (And.intro hj hlt)
        clear hj hlt
        obtain ⟨q, hq⟩ : ∃ q, q = stepM r.m r.S r.inp r.out := ⟨_, rfl⟩
        have STEP := Aside0.mk (xstep_q HE.out HM.out (by have := HS.out.1; have := HJ.out; have := HF.out; omega) HIN.out (by have := HS.out.2; have := HJ.out; have := HF.out; omega))
        rw [← hq] at STEP
        have KEEP := Aside0.mk (step_keeps r.m r.S r.inp r.out HZ.out)
        rw [← hq] at KEEP
        have HQ := Aside0.mk hq
        clear hq
        go_wp2_with (first | (go_at_call 22; refine STEP.out.mono ?_; rintro e W5 ⟨rfl, hd5⟩; have HD5 := Aside0.mk hd5; clear hd5))
        obtain ⟨iv, ov, ps', D, hb5⟩ := HD5.out
        go_roundg (F - (j + 1))
        case measure => have := HJ.out; omega
        case rel =>
          have h1 := HJ.out
          refine ⟨j + 1, q, ps', iv, ov, by omega, ⟨D.em⟩, ⟨HB.out.trans (D.ext.below_of HB.out.size (fun i hi => HFO.out i hi))⟩, ⟨fun i hi => ?_⟩, ⟨hb5⟩, ⟨?_, ?_⟩, ⟨fun v hv => ?_⟩, ⟨?_⟩⟩
          · rcases D.new i hi with h5 | h5
            · exact HFO.out i h5
            · exact Nat.le_trans HB.out.size h5
          · rw [KEEP.out.1, HS.out.1]; simp
          · have := HS.out.2
            rcases KEEP.out.2.2.1 with e | ⟨v, e⟩ <;> rw [e] <;> simp <;> omega
          · rcases KEEP.out.2.2.2 with e | ⟨u, e⟩
            · rw [e] at hv; exact HIN.out v hv
            · exact HIN.out v (by rw [e]; exact List.mem_cons_of_mem _ hv)
          · have h2 := HRJ.out
            rw [show gk = (F - (j + 1)) + 1 by omega, run_next _ _ HZ.out, ← HQ.out] at h2
            exact h2
      · have hjF : j = F := by omega
        have hlt2 : ¬ (j : Int) < (F : Int) := by omega
        have HJF := Aside0.mk hjF
        have hk0 : gk = 0 := by omega
        have RQ := Aside0.mk (show RR = r by have := HRJ.out; rw [hk0] at this; exact this.symm)
        clear hlt hj hk0 hjF
        go_upto_region 10 with (fail)
        have D5 := Aside0.mk (HE.out.set_ended 4)
        generalize wr.setCell ⟨c, 24, none⟩ (.int .i64 4) = W5 at D5 ⊢
        clear kend kst f24
        have B5 := Aside0.mk (HB.out.trans (D5.out.ext.below_of HB.out.size (fun i hi => HFO.out i hi)))
        go_wp2_with (first | (go_at_call 23; refine (xoutcome_calls D5.out.em (by have := HS.out.2; have := HF.out; have := HJF.out; omega)).mono ?_; rintro e W6 ⟨v, rfl, hV, hb6⟩; obtain ⟨A2, k2, rfl⟩ := Kd.R_slice hV; have HV := Aside0.mk hV; have B6 := Aside0.mk (B5.out.trans (hb6.mono B5.out.size)); have R9 := Aside0.mk (blk_below R6.out B6.out); clear hV hb6) | (refine wpList_store_row rfl 27 _ _ rfl g6 _ rfl rfl 27 _ (R9.out) (by as_aux_lemma => kernel_rfl) (by as_aux_lemma => kernel_rfl) (by as_aux_lemma => kernel_rfl) ?_))
        (try simp only [Exit.inBlock, Exit.then])
        refine bodyPost_ret (results_cell2 (p := 6) (q := 7) (ty := 27) rfl _ _ _ _ ⟨g6, 0, none⟩ _ _ (by rfl) (run_loadVar_row _ g6 27 27 _ (0, 0) _ (setRow_heap _ _ _ _ _ _ (R9.out)) Tryd.underlying27 (by rfl) (by kernel_rfl)) (by rfl)) rfl ?_
        rw [RQ.out]
        have hs : stopOf r = 4 := by unfold stopOf; rw [if_neg (by simp [HZ.out])]
        refine ⟨_, by rw [hs]; rfl, R_row HV.out (by have := L6.out; have := B5.out.size; omega) (by have := B1.out.size; have := B5.out.size; omega) _, below_setRow (pm_chain B1.out B6.out) (by have := G6.out; have := HG3.out; omega) _⟩
    · have HZ := Aside0.mk hz
      have RQ := Aside0.mk (show RR = r from (HRJ.out.symm.trans (run_still _ _ hz)))
      have HLN := Aside0.mk (show r.out.length ≤ F by have := HS.out.2; omega)
      obtain ⟨en, hen⟩ : ∃ en, r.S.ended = en := ⟨_, rfl⟩
      rw [hen] at kend hz
      clear hj hen
      go_wp2_with (first | (go_at_call 23; refine (xoutcome_calls HE.out (by have := HLN.out; have := HF.out; omega)).mono ?_; rintro e W6 ⟨v, rfl, hV, hb6⟩; obtain ⟨A2, k2, rfl⟩ := Kd.R_slice hV; have HV := Aside0.mk hV; have B6 := Aside0.mk (HB.out.trans (hb6.mono HB.out.size)); have R9 := Aside0.mk (blk_below R6.out B6.out); clear hV hb6) | (refine wpList_store_row rfl 27 _ _ rfl g6 _ rfl rfl 27 _ (R9.out) (by as_aux_lemma => kernel_rfl) (by as_aux_lemma => kernel_rfl) (by as_aux_lemma => kernel_rfl) ?_))
      (try simp only [Exit.inBlock, Exit.then])
      refine bodyPost_ret (results_cell2 (p := 6) (q := 7) (ty := 27) rfl _ _ _ _ ⟨g6, 0, none⟩ _ _ (by rfl) (run_loadVar_row _ g6 27 27 _ (0, 0) _ (setRow_heap _ _ _ _ _ _ (R9.out)) Tryd.underlying27 (by rfl) (by kernel_rfl)) (by rfl)) rfl ?_
      rw [RQ.out]
      have hs : stopOf r = r.S.ended := by unfold stopOf; rw [if_pos HZ.out]
      refine ⟨_, by rw [hs]; rfl, R_row HV.out (by have := L6.out; have := HB.out.size; omega) (by have := B1.out.size; have := HB.out.size; omega) _, below_setRow (pm_chain B1.out B6.out) (by have := G6.out; have := HG3.out; omega) _⟩
end Go.Proofs.YtejhnlljddjicaaDoor.Ma
namespace Go.Proofs.YtejhnlljddjicaaDoor.Ma
open Go.RowKit Go.Proofs.YtejhnlljddjicaaDoor.PEm Go.Proofs.YtejhnlljddjicaaDoorW.PrintWords Go.Proofs.YtejhnlljddjicaaDoorW.PrintLast Go.Proofs.YtejhnlljddjicaaDoorW.PrintMore Go.Proofs.YtejhnlljddjicaaDoor.La Go.Proofs.YtejhnlljddjicaaDoor.Ea
set_option linter.unusedVariables false
set_option linter.unusedSimpArgs false
variable {w w' : World} {c pg : Nat} {ps ps' : Pages} {S S' : Cpu} {inp out inp' out' : List Int}
set_option maxHeartbeats 4000000 in
set_option maxRecDepth 100000 in
theorem runs_core (w : World) (hh : Held w) (A : Option Addr) (k : Nat) (bs : List Int) (code entry : Int) (Ai : Option Addr) (ki : Nat) (inp : List Int) (fuel : Int) (hC : Kd.C (Kd.int .u8) w A bs.length bs) (hk : bs.length ≤ k) (hbs : bs.length ≤ 140737488355328) (hCi : Kd.C (Kd.int .u8) w Ai inp.length inp) (hki : inp.length ≤ ki) (hi : inp.length ≤ 140737488355328)
    (a b d er ck : Int) (xs : List Int) (hxs : xs.length ≤ 4194304) (hck : emu_Check.f 1 bs code entry = some ck) (hck2 : mortiseref21_Check.f bs code entry = some ck)
    (hE : ∀ (W : World) (A2 : Option Addr) (k2 : Nat) (A3 : Option Addr) (k3 : Nat), Below w.heap.size w W → Kd.C (Kd.int .u8) W A2 bs.length bs → bs.length ≤ k2 → Kd.C (Kd.int .u8) W A3 inp.length inp → Calls Tryd.prog 8 #[.agg #[.slice A2 bs.length k2, .int .i64 code, .int .i64 entry], .slice A3 inp.length k3, .int .i64 fuel] W fun e w' => ∃ v, e = .returned (.tuple #[.agg #[.int .i64 a, .int .i64 b, v, .int .i64 d], .int .i64 er]) ∧ Kd.R (Kd.int .u8) 5 w' W.heap.size (fun _ => True) v xs ∧ Below W.heap.size W w')
    (hX : ∀ (W : World), Below w.heap.size w W → Calls Tryd.prog 9 #[.agg #[.slice A bs.length k, .int .i64 code, .int .i64 entry], .slice Ai inp.length ki, .int .i64 fuel] W fun e w' => ∃ v, e = .returned (.tuple #[.agg #[.int .i64 a, .int .i64 b, v, .int .i64 d], .int .i64 er]) ∧ Kd.R (Kd.int .u8) 5 w' W.heap.size (fun _ => True) v xs ∧ Below W.heap.size W w') :
    Calls Tryd.prog 3 #[.agg #[.slice A bs.length k, .int .i64 code, .int .i64 entry], .slice Ai inp.length ki, .int .i64 fuel] w fun e w' => e = .returned (.bool true) ∧ Below w.heap.size w w' := by
  have HE := Aside0.mk hE
  have HX := Aside0.mk hX
  have HC := Aside0.mk hC
  have HK := Aside0.mk hk
  have HBS := Aside0.mk hbs
  have HCI := Aside0.mk hCi
  have HKI := Aside0.mk hki
  have HI := Aside0.mk hi
  have HXS := Aside0.mk hxs
  have HCK := Aside0.mk hck
  have HCK2 := Aside0.mk hck2
  have HH := Aside0.mk hh
  have B1 := Aside0.mk (show Below w.heap.size w ((w.alloc (.cells #[.slice A bs.length k, .int .i64 code, .int .i64 entry] 24)).alloc (.cells #[.slice A bs.length k, .int .i64 code, .int .i64 entry] 24)) from below_alloc (below_alloc (Below.refl _ _) _) _)
  have R3 := Aside0.mk (show ((w.alloc (.cells #[.slice A bs.length k, .int .i64 code, .int .i64 entry] 24)).alloc (.cells #[.slice A bs.length k, .int .i64 code, .int .i64 entry] 24)).heap[w.heap.size]? = some (.cells #[.slice A bs.length k, .int .i64 code, .int .i64 entry] 24 (0, 0)) from blk_alloc (heap_at _ _ _ rfl) _)
  have R7 := Aside0.mk (show ((w.alloc (.cells #[.slice A bs.length k, .int .i64 code, .int .i64 entry] 24)).alloc (.cells #[.slice A bs.length k, .int .i64 code, .int .i64 entry] 24)).heap[w.heap.size + 1]? = some (.cells #[.slice A bs.length k, .int .i64 code, .int .i64 entry] 24 (0, 0)) from heap_at _ _ _ (by simp))
  clear hE hX hC hk hbs hCi hki hi hxs hck hck2 hh
  go_enter Tryd.func3, Tryd.ntmps3
  go_upto_region 2 with (fail)
  generalize ((w.alloc (.cells #[.slice A bs.length k, .int .i64 code, .int .i64 entry] 24)).alloc (.cells #[.slice A bs.length k, .int .i64 code, .int .i64 entry] 24)) = W1 at B1 R3 R7 ⊢
  have G7 := Aside0.mk (show w.heap.size ≤ w.heap.size + 1 by omega)
  generalize hg7 : w.heap.size + 1 = g7 at R7 G7 ⊢
  generalize hg3 : w.heap.size = g3 at R3 ⊢
  have NE := Aside0.mk (show ¬ g7 = g3 by omega)
  have HG3 := Aside0.mk hg3
  clear hg7 hg3
  have c0 := (blk_cell R3.out 0).trans rfl
  have c0a := (blk_cell (blk_alloc R3.out (.cells #[] 5)) 0).trans rfl
  go_upto_region 3 with (first | ((with_reducible refine gate_builtin (b := .append) (xs := #[.tmp 14, .tmp 16]) rfl ?_); at_builtin; refine app_plain rfl (.tmp 14) (.tmp 16) rfl bs A bs.length k (Kd.C_below HC.out B1.out) HBS.out rfl rfl ?_; intro A2 k2 w1 hR1 hB1; have HR2 := Aside0.mk hR1; have HB2 := Aside0.mk hB1; have f70 := blk_frozen (blk_below R7.out hB1) 0; have q70 := (blk_cell (blk_below R7.out hB1) 0).trans rfl; clear hR1 hB1))
  have BW2 := Aside0.mk ((pm_chain B1.out HB2.out).setCell (p := ⟨g7, 0, none⟩) (by have := HG3.out; have := G7.out; omega) (.slice A2 bs.length k2))
  have S3 := Aside0.mk (blk_far (blk_below R3.out HB2.out) (p := ⟨g7, 0, none⟩) (fun e => NE.out e.symm) (.slice A2 bs.length k2))
  have S7 := Aside0.mk (show (w1.setCell ⟨g7, 0, none⟩ (.slice A2 bs.length k2)).heap[g7]? = some (.cells #[.slice A2 bs.length k2, .int .i64 code, .int .i64 entry] 24 (0, 0)) from blk_set (blk_below R7.out HB2.out) 0 _)
  have V2 := Aside0.mk (R_setcell HR2.out (lt_of_at R7.out) 0 (.slice A2 bs.length k2))
  clear c0 c0a f70 q70 HR2 HB2
  generalize w1.setCell ⟨g7, 0, none⟩ (.slice A2 bs.length k2) = W2 at BW2 S3 S7 V2 ⊢
  go_upto_region 4 with (first | ((with_reducible refine gate_builtin (b := .append) (xs := #[.tmp 19, .tmp 20]) rfl ?_); at_builtin; refine app_plain rfl (.tmp 19) (.tmp 20) rfl inp Ai inp.length ki (Kd.C_below HCI.out BW2.out) HI.out rfl rfl ?_; intro A3 k3 w3 hR3 hB3; have HR3 := Aside0.mk hR3; have HB3 := Aside0.mk hB3; clear hR3 hB3))
  have BW3 := Aside0.mk (pm_chain BW2.out HB3.out)
  have T3 := Aside0.mk (blk_below S3.out HB3.out)
  have T7 := Aside0.mk (blk_below S7.out HB3.out)
  have K2 := Aside0.mk (Kd.R_reads' V2.out).2.1
  have C2 := Aside0.mk (Kd.C_below (show Kd.C (Kd.int .u8) W2 A2 bs.length bs from (Kd.R_reads' V2.out).2.2) HB3.out)
  have K3 := Aside0.mk (Kd.R_reads' HR3.out).2.1
  have C3 := Aside0.mk (show Kd.C (Kd.int .u8) w3 A3 inp.length inp from (Kd.R_reads' HR3.out).2.2)
  clear V2 S3 S7 R3 R7 HR3 HB3 BW2
  have c0 := (blk_cell T7.out 0).trans rfl
  have c1 := (blk_cell T7.out 1).trans rfl
  have c2 := (blk_cell T7.out 2).trans rfl
  go_upto_region 5 with (first | (go_at_call 8; refine (HE.out w3 A2 k2 A3 k3 BW3.out C2.out K2.out C3.out).mono ?_; rintro e Y ⟨v, rfl, hV, hb⟩; obtain ⟨A4, k4, rfl⟩ := Kd.R_slice hV; have HV := Aside0.mk hV; have HB4 := Aside0.mk hb; clear hV hb))
  have Z := Aside0.mk (show (Y.alloc (.cells #[.int .i64 a, .int .i64 b, .slice A4 xs.length k4, .int .i64 d] 27)).heap[Y.heap.size]? = some (.cells #[.int .i64 a, .int .i64 b, .slice A4 xs.length k4, .int .i64 d] 27 (0, 0)) from heap_at _ _ _ rfl)
  have BY := Aside0.mk (show Below w3.heap.size w3 (Y.alloc (.cells #[.int .i64 a, .int .i64 b, .slice A4 xs.length k4, .int .i64 d] 27)) from below_alloc HB4.out _)
  have K4 := Aside0.mk (Kd.R_reads' HV.out).2.1
  have C4 := Aside0.mk (Kd.C_below (show Kd.C (Kd.int .u8) Y A4 xs.length xs from (Kd.R_reads' HV.out).2.2) (below_alloc (Below.refl _ _) (.cells #[.int .i64 a, .int .i64 b, .slice A4 xs.length k4, .int .i64 d] 27)))
  clear HV HB4 c0 c1 c2
  generalize Y.alloc (.cells #[.int .i64 a, .int .i64 b, .slice A4 xs.length k4, .int .i64 d] 27) = W5 at Z BY C4 ⊢
  generalize Y.heap.size = g9 at Z ⊢
  have BW5 := Aside0.mk (pm_chain BW3.out BY.out)
  have U3 := Aside0.mk (blk_below T3.out BY.out)
  have U7 := Aside0.mk (blk_below T7.out BY.out)
  have D2 := Aside0.mk (Kd.C_below C2.out BY.out)
  have D3 := Aside0.mk (Kd.C_below C3.out BY.out)
  clear T3 T7 C2 C3 BY BW3
  have c0 := (blk_cell U3.out 0).trans rfl
  have c1 := (blk_cell U3.out 1).trans rfl
  have c2 := (blk_cell U3.out 2).trans rfl
  go_upto_region 6 with (first | (go_at_call 9; refine (HX.out W5 BW5.out).mono ?_; rintro e Y2 ⟨v, rfl, hV, hb⟩; obtain ⟨A5, k5, rfl⟩ := Kd.R_slice hV; have HV := Aside0.mk hV; have HB5 := Aside0.mk hb; clear hV hb))
  have ZZ := Aside0.mk (show (Y2.alloc (.cells #[.int .i64 a, .int .i64 b, .slice A5 xs.length k5, .int .i64 d] 27)).heap[Y2.heap.size]? = some (.cells #[.int .i64 a, .int .i64 b, .slice A5 xs.length k5, .int .i64 d] 27 (0, 0)) from heap_at _ _ _ rfl)
  have BY := Aside0.mk (show Below W5.heap.size W5 (Y2.alloc (.cells #[.int .i64 a, .int .i64 b, .slice A5 xs.length k5, .int .i64 d] 27)) from below_alloc HB5.out _)
  have K5 := Aside0.mk (Kd.R_reads' HV.out).2.1
  have C5 := Aside0.mk (Kd.C_below (show Kd.C (Kd.int .u8) Y2 A5 xs.length xs from (Kd.R_reads' HV.out).2.2) (below_alloc (Below.refl _ _) (.cells #[.int .i64 a, .int .i64 b, .slice A5 xs.length k5, .int .i64 d] 27)))
  clear HV HB5 c0 c1 c2
  generalize Y2.alloc (.cells #[.int .i64 a, .int .i64 b, .slice A5 xs.length k5, .int .i64 d] 27) = W6 at ZZ BY C5 ⊢
  generalize Y2.heap.size = g11 at ZZ ⊢
  have BW6 := Aside0.mk (pm_chain BW5.out BY.out)
  have P3 := Aside0.mk (blk_below U3.out BY.out)
  have P7 := Aside0.mk (blk_below U7.out BY.out)
  have P9 := Aside0.mk (blk_below Z.out BY.out)
  have E2 := Aside0.mk (Kd.C_below D2.out BY.out)
  have E3 := Aside0.mk (Kd.C_below D3.out BY.out)
  have E4 := Aside0.mk (Kd.C_below C4.out BY.out)
  clear U3 U7 Z D2 D3 C4 BY BW5
  have FA := Aside0.mk (Kd.C_below HC.out BW6.out)
  have FI := Aside0.mk (Kd.C_below HCI.out BW6.out)
  have HW := Aside0.mk (held_below HH.out BW6.out)
  have n0 : W6.cell? ⟨g9, 0, none⟩ = some (.int .i64 a) := (blk_cell P9.out 0).trans rfl
  have n1 : W6.cell? ⟨g9, 1, none⟩ = some (.int .i64 b) := (blk_cell P9.out 1).trans rfl
  have n2 : W6.cell? ⟨g9, 2, none⟩ = some (.slice A4 xs.length k4) := (blk_cell P9.out 2).trans rfl
  have n3 : W6.cell? ⟨g9, 3, none⟩ = some (.int .i64 d) := (blk_cell P9.out 3).trans rfl
  have e0 : W6.cell? ⟨g11, 0, none⟩ = some (.int .i64 a) := (blk_cell ZZ.out 0).trans rfl
  have e1 : W6.cell? ⟨g11, 1, none⟩ = some (.int .i64 b) := (blk_cell ZZ.out 1).trans rfl
  have e2 : W6.cell? ⟨g11, 2, none⟩ = some (.slice A5 xs.length k5) := (blk_cell ZZ.out 2).trans rfl
  have e3 : W6.cell? ⟨g11, 3, none⟩ = some (.int .i64 d) := (blk_cell ZZ.out 3).trans rfl
  have s0 : W6.cell? ⟨g7, 0, none⟩ = some (.slice A2 bs.length k2) := (blk_cell P7.out 0).trans rfl
  have s1 : W6.cell? ⟨g7, 1, none⟩ = some (.int .i64 code) := (blk_cell P7.out 1).trans rfl
  have s2 : W6.cell? ⟨g7, 2, none⟩ = some (.int .i64 entry) := (blk_cell P7.out 2).trans rfl
  have t0 : W6.cell? ⟨g3, 0, none⟩ = some (.slice A bs.length k) := (blk_cell P3.out 0).trans rfl
  have t1 : W6.cell? ⟨g3, 1, none⟩ = some (.int .i64 code) := (blk_cell P3.out 1).trans rfl
  have t2 : W6.cell? ⟨g3, 2, none⟩ = some (.int .i64 entry) := (blk_cell P3.out 2).trans rfl
  have bd : Below W6.heap.size W6 W6.drew := (Below.refl _ _).drew
  go_cut [6] (fun v6 wc => v6 = .bool true ∧ Aside0 (Below w.heap.size w wc))
  case first =>
    go_region_held3 (fun w' => w'.cell? ⟨g9, 0, none⟩ = some (.int .i64 a) ∧ w'.cell? ⟨g9, 1, none⟩ = some (.int .i64 b) ∧ w'.cell? ⟨g9, 2, none⟩ = some (.slice A4 xs.length k4) ∧ w'.cell? ⟨g9, 3, none⟩ = some (.int .i64 d) ∧ w'.cell? ⟨g11, 0, none⟩ = some (.int .i64 a) ∧ w'.cell? ⟨g11, 1, none⟩ = some (.int .i64 b) ∧ w'.cell? ⟨g11, 2, none⟩ = some (.slice A5 xs.length k5) ∧ w'.cell? ⟨g11, 3, none⟩ = some (.int .i64 d) ∧ w'.cell? ⟨g7, 0, none⟩ = some (.slice A2 bs.length k2) ∧ w'.cell? ⟨g7, 1, none⟩ = some (.int .i64 code) ∧ w'.cell? ⟨g7, 2, none⟩ = some (.int .i64 entry) ∧ w'.cell? ⟨g3, 0, none⟩ = some (.slice A bs.length k) ∧ w'.cell? ⟨g3, 1, none⟩ = some (.int .i64 code) ∧ w'.cell? ⟨g3, 2, none⟩ = some (.int .i64 entry)) (first | (refine ⟨pw_cell_below ?_ n0, pw_cell_below ?_ n1, pw_cell_below ?_ n2, pw_cell_below ?_ n3, pw_cell_below ?_ e0, pw_cell_below ?_ e1, pw_cell_below ?_ e2, pw_cell_below ?_ e3, pw_cell_below ?_ s0, pw_cell_below ?_ s1, pw_cell_below ?_ s2, pw_cell_below ?_ t0, pw_cell_below ?_ t1, pw_cell_below ?_ t2⟩ <;> first | with_reducible exact b6 | with_reducible exact b5 | with_reducible exact b4 | with_reducible exact b3 | with_reducible exact b2 | with_reducible exact b1 | ((repeat (first | (with_reducible exact Below.refl _ _) | (with_reducible assumption) | with_reducible apply below_alloc | with_reducible apply pw_below_drewN | with_reducible apply below_drew1)); done)) | fail) (first | (go_at_call 10; refine (mortiseref21_Same.calls 5000000 a b A4 k4 xs d a b A5 k5 xs d true _ (Kd.C_below E4.out bd) K4.out (Kd.C_below C5.out bd) K5.out (same21 a b d xs HXS.out)).mono ?_; rintro e Q1 ⟨rfl, h1⟩; have b1 := pm_chain bd h1; clear h1) | (go_at_call 11; refine (emu_Check.calls 1 A2 k2 bs code entry ck _ (Kd.C_below E2.out b1) K2.out HCK.out).mono ?_; rintro e Q2 ⟨rfl, h1⟩; have b2 := pm_chain b1 h1; clear h1) | (go_at_call 12; refine (mortiseref21_Check.calls A k bs code entry ck _ (Kd.C_below FA.out b2) HK.out HCK2.out).mono ?_; rintro e Q3 ⟨rfl, h1⟩; have b3 := pm_chain b2 h1; clear h1) | ((fail_if_success clear b4); go_at_call 13; refine (mortiseref01_Same.calls (bs.length + 1) A2 k2 bs A k bs true _ (Kd.C_below E2.out b3) K2.out (Kd.C_below FA.out b3) HK.out (same_self bs (by have := HBS.out; omega) _ (Nat.lt_succ_self _))).mono ?_; rintro e Q4 ⟨rfl, h1⟩; have b4 := pm_chain b3 (dn0_below h1); clear h1) | (go_at_call 13; refine (mortiseref01_Same.calls (inp.length + 1) A3 k3 inp Ai ki inp true _ (Kd.C_below E3.out b4) K3.out (Kd.C_below FI.out b4) HKI.out (same_self inp (by have := HI.out; omega) _ (Nat.lt_succ_self _))).mono ?_; rintro e Q5 ⟨rfl, h1⟩; have b5 := pm_chain b4 (dn0_below h1); clear h1) | (go_at_call 14; refine (heads_calls _ (held_below HW.out b5)).mono ?_; rintro e Q6 ⟨rfl, h1⟩; have b6 := pm_chain b5 h1; clear h1) | fail)
    all_goals go_wp2_with (fail)
    all_goals go_meet
    all_goals exact ⟨rfl, ⟨pm_chain BW6.out b6⟩⟩
  case rest =>
    obtain ⟨rfl, BX⟩ := hcut
    go_wp2_with (fail)
    go_ret
    exact ⟨rfl, BX.out⟩
theorem emuRuns_calls (w : World) (hh : Held w) (A : Option Addr) (k : Nat) (bs : List Int) (code entry : Int) (Ai : Option Addr) (ki : Nat) (inp : List Int) (fuel : Int) (hC : Kd.C (Kd.int .u8) w A bs.length bs) (hk : bs.length ≤ k) (hbs : bs.length ≤ 140737488355328) (hx : ∀ b ∈ bs, 0 ≤ b ∧ b < 256)
    (hCi : Kd.C (Kd.int .u8) w Ai inp.length inp) (hki : inp.length ≤ ki) (hi : inp.length ≤ 140737488355328) (hxi : ∀ b ∈ inp, 0 ≤ b ∧ b < 256) :
    Calls Tryd.prog 3 #[.agg #[.slice A bs.length k, .int .i64 code, .int .i64 entry], .slice Ai inp.length ki, .int .i64 fuel] w fun e w' => e = .returned (.bool true) ∧ Below w.heap.size w w' := by
  by_cases ho : okImg bs.length code entry
  · by_cases hf : 1 ≤ fuel ∧ fuel ≤ 4194304
    · obtain ⟨F, rfl⟩ : ∃ F : Nat, fuel = F := ⟨fuel.toNat, by omega⟩
      have hF : 1 ≤ F ∧ F ≤ 4194304 := by omega
      have hout : (runM F (startR bs code entry inp)).out.length ≤ 4194304 := by
        have h := (run_counts F (startR bs code entry inp))
        have h2 : (startR bs code entry inp).out.length = 0 := rfl
        have h3 : (startR bs code entry inp).S.steps = 0 := rfl
        omega
      exact runs_core w hh A k bs code entry Ai ki inp F hC hk hbs hCi hki hi _ _ _ 0 0 _ hout (check_ok ho) (xcheck_ok ho)
        (fun W A2 k2 A3 k3 hb c2 hk2 c3 => run_yes W (held_below hh hb) A2 k2 bs code entry A3 k3 inp F c2 hk2 ho hx c3 hi hxi hF)
        (fun W hb => xrun_yes W A k bs code entry Ai ki inp F (Kd.C_below hC hb) hk ho hx (Kd.C_below hCi hb) hki hxi hF)
    · have hf2 : fuel < 1 ∨ fuel > 4194304 := by omega
      exact runs_core w hh A k bs code entry Ai ki inp fuel hC hk hbs hCi hki hi 0 0 0 2 0 [] (by decide) (check_ok ho) (xcheck_ok ho)
        (fun W A2 k2 A3 k3 hb c2 hk2 c3 => (run_fuel W A2 k2 bs code entry A3 k3 inp fuel c2 hk2 ho hx c3 hi hf2).mono (fun e w' h => ⟨_, h.1, Kd.R_nil _ _ _ _ _, h.2⟩))
        (fun W hb => (xrun_fuel W A k bs code entry Ai ki inp fuel (Kd.C_below hC hb) hk ho hx (Kd.C_below hCi hb) hki hf2).mono (fun e w' h => ⟨_, h.1, Kd.R_nil _ _ _ _ _, h.2⟩))
  · exact runs_core w hh A k bs code entry Ai ki inp fuel hC hk hbs hCi hki hi 0 0 0 2 2 [] (by decide) (check_bad ho (by omega)) (xcheck_bad ho (by omega))
      (fun W A2 k2 A3 k3 hb c2 hk2 c3 => (run_no W A2 k2 bs code entry (.slice A3 inp.length k3) fuel c2 hk2 ho).mono (fun e w' h => ⟨_, h.1, Kd.R_nil _ _ _ _ _, h.2⟩))
      (fun W hb => (xrun_no W A k bs code entry (.slice Ai inp.length ki) fuel (Kd.C_below hC hb) hk ho).mono (fun e w' h => ⟨_, h.1, Kd.R_nil _ _ _ _ _, h.2⟩))
end Go.Proofs.YtejhnlljddjicaaDoor.Ma
