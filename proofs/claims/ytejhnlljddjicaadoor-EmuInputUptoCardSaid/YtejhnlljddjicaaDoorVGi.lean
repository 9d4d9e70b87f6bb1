/- slices.Clone of bytes; Outcome. No condition beyond those each theorem names. And more of the kind: 5 texts in one. -/
import Derived.Test.YtejhnlljddjicaaDoorVGh
import Derived.Test.YtejhnlljddjicaaDoorVGb
import Derived.Laws.CopyOwn
import Derived.Test.YtejhnlljddjicaaDoorVGc
import Derived.Deep.RegionLaw
namespace Go.Proofs.YtejhnlljddjicaaDoor.Ma
open Go.RowKit Go.Proofs.YtejhnlljddjicaaDoor.PEm Go.Proofs.YtejhnlljddjicaaDoorW.PrintWords Go.Proofs.YtejhnlljddjicaaDoorW.PrintLast Go.Proofs.YtejhnlljddjicaaDoorW.PrintMore Go.Proofs.YtejhnlljddjicaaDoor.La Go.Proofs.YtejhnlljddjicaaDoor.Ea
set_option linter.unusedVariables false
set_option linter.unusedSimpArgs false
variable {w w' : World} {c pg : Nat} {ps ps' : Pages} {S S' : Cpu} {inp out inp' out' : List Int}
theorem eqn22 (W : World) (n c : Nat) : (binOp .eql 22 (.slice none n c) (.slice none 0 0)).run Tryd.prog W = .ok (.bool true) W := by kernel_rfl
set_option maxHeartbeats 4000000 in
set_option maxRecDepth 100000 in
theorem clone_some (w : World) (ad : Addr) (n k : Nat) (xs : List Int) (hC : Kd.C (Kd.int .u8) w (some ad) n xs) (hn : n ≤ 140737488355328) :
    Calls Tryd.prog 25 #[.slice (some ad) n k] w fun e w' => ∃ v, e = .returned v ∧ Kd.R (Kd.int .u8) 5 w' w.heap.size (fun _ => True) v xs ∧ Below w.heap.size w w' := by
  have hu := ne22
  have HR := Aside0.mk hC
  have HN := Aside0.mk hn
  have in5 := Aside0.mk inf5
  clear hC hn
  go_enter Tryd.func25, Tryd.ntmps25
  go_wp2_with (first | ((with_reducible refine gate_dst (N := 5) rfl ?_); refine Kd.R_lit (Kd.int .u8) _ 5 ?hg (N := 5) ?hd (xs := ([] : List Int)) (inner := []) (ok := fun _ => True) (okp := fun _ => True) ?hr ?hp (fun _ hk => hk) trivial (Below.refl _ _) (Nat.le_refl _) (by simp) ?_; (case hd => rfl); (case hg => rfl); (case hr => first | (go_simp; done) | (go_simp; rfl)); (case hp => exact (Reps.none _ _)); intro v1 W1 ho hb hg_ hnew_; clear hg_ hnew_; have HO := Aside0.mk ho; have HB := Aside0.mk hb; clear ho hb) | ((with_reducible refine gate_builtin (b := .append) (xs := #[.tmp 5, .tmp 6]) rfl ?_); at_builtin; refine Kd.R_append_row (Value.int .u8) (0 : Int) (h1 := fun _ => rfl) (w0 := w) w.heap.size rfl (.tmp 5) (.tmp 6) 22 5 (.int .u8 0) 1 rfl Tryd.underlying22 in5.out rfl (by decide) v1 [] xs (some ad) n k (fun _ => True) rfl rfl ?aF ?aO ?aR HB.out ?aS ?aL ?_; (case aR => exact Kd.C_below HR.out HB.out); (case aF => exact (fun _ _ => trivial)); (case aO => exact HO.out); (case aS => exact HB.out.size); (case aL => have := HN.out; simp; omega); intro v2 W2 ho hb hg hat; have HO2 := Aside0.mk ho; have HB2 := Aside0.mk hb; clear ho hb hg hat))
  go_ret
  exact ⟨v2, rfl, HO2.out, HB2.out⟩
set_option maxHeartbeats 4000000 in
set_option maxRecDepth 100000 in
theorem clone_none (w : World) (n k : Nat) (xs : List Int) (hC : Kd.C (Kd.int .u8) w none n xs) :
    Calls Tryd.prog 25 #[.slice none n k] w fun e w' => ∃ v, e = .returned v ∧ Kd.R (Kd.int .u8) 5 w' w.heap.size (fun _ => True) v xs ∧ Below w.heap.size w w' := by
  have hu := eqn22
  have hx : xs = [] := by
    obtain ⟨h1, _, h3⟩ := hC
    cases xs with
    | nil => rfl
    | cons a b => obtain ⟨ad, e, _⟩ := h3 (by rw [← h1]; simp); cases e
  subst hx
  clear hC
  go_enter Tryd.func25, Tryd.ntmps25
  go_wp2_with (fail)
  go_ret
  exact ⟨_, rfl, Kd.R_nil _ _ _ _ _, Below.refl _ _⟩
theorem clone_calls (w : World) (A : Option Addr) (n k : Nat) (xs : List Int) (hC : Kd.C (Kd.int .u8) w A n xs) (hn : n ≤ 140737488355328) :
    Calls Tryd.prog 25 #[.slice A n k] w fun e w' => ∃ v, e = .returned v ∧ Kd.R (Kd.int .u8) 5 w' w.heap.size (fun _ => True) v xs ∧ Below w.heap.size w w' := by
  cases A with
  | none => exact clone_none w n k xs hC
  | some ad => exact clone_some w ad n k xs hC hn
end Go.Proofs.YtejhnlljddjicaaDoor.Ma
namespace Go.Proofs.YtejhnlljddjicaaDoor.Ma
open Go.RowKit Go.Proofs.YtejhnlljddjicaaDoor.PEm Go.Proofs.YtejhnlljddjicaaDoorW.PrintWords Go.Proofs.YtejhnlljddjicaaDoorW.PrintLast Go.Proofs.YtejhnlljddjicaaDoorW.PrintMore Go.Proofs.YtejhnlljddjicaaDoor.La Go.Proofs.YtejhnlljddjicaaDoor.Ea
set_option linter.unusedVariables false
set_option linter.unusedSimpArgs false
variable {w w' : World} {c pg : Nat} {ps ps' : Pages} {S S' : Cpu} {inp out inp' out' : List Int}
theorem st4 {W : World} {g c i : Nat} {a b d e : Value} {v : Option Value} (h : W.cell? ⟨c, i, none⟩ = v) (hg : ¬ g = c) : ((((W.setCell ⟨g, 0, none⟩ a).setCell ⟨g, 1, none⟩ b).setCell ⟨g, 2, none⟩ d).setCell ⟨g, 3, none⟩ e).cell? ⟨c, i, none⟩ = v := by
  rw [World.cell?_setCell_far _ _ _ _ hg, World.cell?_setCell_far _ _ _ _ hg, World.cell?_setCell_far _ _ _ _ hg, World.cell?_setCell_far _ _ _ _ hg]
  exact h
set_option maxHeartbeats 4000000 in
set_option maxRecDepth 100000 in
theorem outcome_calls (h : EM w c pg ps S inp out) (hout : out.length ≤ 140737488355328) : Calls Tryd.prog 20 #[.pointer (some ⟨c, 0, none⟩)] w fun e w' => ∃ v, e = .returned (.agg #[.int .i64 S.ended, .int .i64 S.exit, v, .int .i64 S.steps]) ∧ Kd.R (Kd.int .u8) 5 w' w.heap.size (fun _ => True) v out ∧ Below w.heap.size w w' := by
  obtain ⟨base, hR⟩ := h.outS
  obtain ⟨A, k, eO, _, hC⟩ := Kd.R_reads hR
  have HC := Aside0.mk hC
  have HN := Aside0.mk hout
  have H := Aside0.mk h
  have B0 := Aside0.mk (show Below w.heap.size w (w.alloc (.cells #[.int .i64 0, .int .i64 0, .slice none 0 0, .int .i64 0] 27)) from below_alloc (Below.refl _ _) _)
  have HB := Aside0.mk (h.below B0.out)
  have R2 := Aside0.mk (show (w.alloc (.cells #[.int .i64 0, .int .i64 0, .slice none 0 0, .int .i64 0] 27)).heap[w.heap.size]? = some (.cells #[.int .i64 0, .int .i64 0, .slice none 0 0, .int .i64 0] 27 (0, 0)) from heap_at _ _ _ rfl)
  clear h hR hC hout
  go_enter Tryd.func20, Tryd.ntmps20
  go_upto_region 3 with (first | (go_at_call 27; refine (alive_yes HB.out).mono ?_; rintro e w2 ⟨rfl, e2⟩; rw [e2]; clear e2))
  generalize w.alloc (.cells #[.int .i64 0, .int .i64 0, .slice none 0 0, .int .i64 0] 27) = W0 at HB R2 B0 ⊢
  generalize hg2 : w.heap.size = g2 at R2 ⊢
  have k22 := HB.out.k22
  have k23 := HB.out.k23
  have k21 := HB.out.k21.trans (congrArg some eO)
  have k19 := HB.out.k19
  have j22 : W0.drew.cell? ⟨c, 22, none⟩ = some (.int .i64 S.ended) := k22
  have j23 : W0.drew.cell? ⟨c, 23, none⟩ = some (.int .i64 S.exit) := k23
  have j21 : W0.drew.cell? ⟨c, 21, none⟩ = some (.slice A out.length k) := k21
  have j19 : W0.drew.cell? ⟨c, 19, none⟩ = some (.int .i64 S.steps) := k19
  have NC := Aside0.mk (show ¬ g2 = c from fun e => by have := H.out.foot_lt c (by simp [foot]); omega)
  have D0 := Aside0.mk (show Below W0.heap.size W0 W0.drew from (Below.refl _ _).drew)
  go_region_held3 (fun w' => w'.cell? ⟨c, 22, none⟩ = some (.int .i64 S.ended) ∧ w'.cell? ⟨c, 23, none⟩ = some (.int .i64 S.exit) ∧ w'.cell? ⟨c, 21, none⟩ = some (.slice A out.length k) ∧ w'.cell? ⟨c, 19, none⟩ = some (.int .i64 S.steps)) (first | with_reducible exact ⟨k22, k23, k21, k19⟩ | with_reducible exact ⟨j22, j23, j21, j19⟩ | with_reducible exact ⟨x22, x23, x21, x19⟩ | with_reducible exact ⟨st4 x22 NC.out, st4 x23 NC.out, st4 x21 NC.out, st4 x19 NC.out⟩) ((go_at_call 25; refine (clone_calls _ A out.length k out (Kd.C_below (Kd.C_below HC.out B0.out) D0.out) HN.out).mono ?_; rintro e WX ⟨v, rfl, hV, hB1⟩; obtain ⟨A2, k2, rfl⟩ := Kd.R_slice hV; have EX := (HB.out.below D0.out).below hB1; have x22 := EX.k22; have x23 := EX.k23; have x21 := EX.k21.trans (congrArg some eO); have x19 := EX.k19; have RX := blk_below R2.out (pm_chain D0.out hB1); have z0 := (blk_cell RX 0).trans rfl; have z1 := (blk_cell RX 1).trans rfl; have z2 := (blk_cell RX 2).trans rfl; have z3 := (blk_cell RX 3).trans rfl; have f0 := blk_frozen RX 0; have f1 := blk_frozen RX 1; have f2 := blk_frozen RX 2; have f3 := blk_frozen RX 3))
  all_goals go_wp2_with (fail)
  (try simp only [Exit.inBlock, Exit.then])
  have RY := blk_set (blk_set (blk_set (blk_set RX 0 (.int .i64 S.ended)) 1 (.int .i64 S.exit)) 2 (.slice A2 out.length k2)) 3 (.int .i64 S.steps)
  have g2lt : g2 < W0.drew.heap.size := lt_of_at R2.out
  have hb3 : ∀ u0 u1 u2 u3, Below w.heap.size w ((((WX.setCell ⟨g2, 0, none⟩ u0).setCell ⟨g2, 1, none⟩ u1).setCell ⟨g2, 2, none⟩ u2).setCell ⟨g2, 3, none⟩ u3) := fun u0 u1 u2 u3 =>
    (((Below.setCell (pm_chain B0.out (pm_chain D0.out hB1)) (p := ⟨g2, 0, none⟩) (Nat.le_of_eq hg2) u0).setCell (p := ⟨g2, 1, none⟩) (Nat.le_of_eq hg2) u1).setCell (p := ⟨g2, 2, none⟩) (Nat.le_of_eq hg2) u2).setCell (p := ⟨g2, 3, none⟩) (Nat.le_of_eq hg2) u3
  have hV2 := Kd.R_lower (Kd.R_tight rfl hV) (show w.heap.size ≤ W0.drew.heap.size by omega)
  have hok : ∀ q, some q = (Value.slice A2 out.length k2).ownBlock → q ≠ g2 := fun q hq e => by have := Kd.R_base hV q hq.symm; omega
  have hV3 := Kd.R_far (p := ⟨g2, 3, none⟩) (Kd.R_far (p := ⟨g2, 2, none⟩) (Kd.R_far (p := ⟨g2, 1, none⟩) (Kd.R_far (p := ⟨g2, 0, none⟩) hV2 hok (.int .i64 S.ended)) hok (.int .i64 S.exit)) hok (.slice A2 out.length k2)) hok (.int .i64 S.steps)
  refine bodyPost_ret (results_cell1 (p := 2) (ty := 27) rfl _ _ _ _ ⟨g2, 0, none⟩ _ (by rfl) (run_loadVar_row _ g2 27 27 _ (0, 0) _ RY Tryd.underlying27 (by rfl) (by kernel_rfl))) rfl ?_
  exact ⟨_, rfl, Kd.R_mono hV3 (fun _ _ => trivial), hb3 _ _ _ _⟩
end Go.Proofs.YtejhnlljddjicaaDoor.Ma
namespace Go.Proofs.YtejhnlljddjicaaDoor.Ma
open Go.RowKit Go.Proofs.YtejhnlljddjicaaDoor.PEm Go.Proofs.YtejhnlljddjicaaDoorW.PrintWords Go.Proofs.YtejhnlljddjicaaDoorW.PrintLast Go.Proofs.YtejhnlljddjicaaDoorW.PrintMore Go.Proofs.YtejhnlljddjicaaDoor.La
set_option linter.unusedVariables false
set_option linter.unusedSimpArgs false
variable {w w' : World} {c pg : Nat} {ps ps' : Pages} {S S' : Cpu} {inp out inp' out' : List Int}
/-- Bytes laid over a row. -/
def splB (bs : List Int) (o : Nat) (cs : List Int) : List Int := bs.take o ++ (cs ++ bs.drop (o + cs.length))
theorem splB_len {bs cs : List Int} {o : Nat} (h : o + cs.length ≤ bs.length) : (splB bs o cs).length = bs.length := by unfold splB; simp; omega
theorem splB_mem {bs cs : List Int} {o : Nat} (h1 : ∀ b ∈ bs, 0 ≤ b ∧ b < 256) (h2 : ∀ b ∈ cs, 0 ≤ b ∧ b < 256) : ∀ b ∈ splB bs o cs, 0 ≤ b ∧ b < 256 := by
  intro b hb
  unfold splB at hb
  simp only [List.mem_append] at hb
  rcases hb with hb | hb | hb
  · exact h1 b (List.mem_of_mem_take hb)
  · exact h2 b hb
  · exact h1 b (List.mem_of_mem_drop hb)
theorem splB_get {bs cs : List Int} {o : Nat} (h : o + cs.length ≤ bs.length) (i : Nat) : ((splB bs o cs)[i]?).getD 0 = if o ≤ i ∧ i < o + cs.length then (cs[i - o]?).getD 0 else (bs[i]?).getD 0 := by
  unfold splB
  have hl : (bs.take o).length = o := by simp; omega
  by_cases h1 : i < o
  · rw [List.getElem?_append_left (by omega), if_neg (by omega), List.getElem?_take, if_pos h1]
  · rw [List.getElem?_append_right (by omega), hl]
    by_cases h2 : i < o + cs.length
    · rw [List.getElem?_append_left (by omega), if_pos ⟨by omega, h2⟩]
    · rw [List.getElem?_append_right (by omega), if_neg (by omega), List.getElem?_drop]
      congr 2; omega
theorem splB_row (bs : List Int) (o : Nat) (cs : List Int) : ((byteRow bs).toList.take o ++ ((cs.map (Value.int .u8 ·)) ++ (byteRow bs).toList.drop (o + (cs.map (Value.int .u8 ·)).length))).toArray = byteRow (splB bs o cs) := by
  unfold byteRow splB
  simp
theorem setRow_ext (w : World) (g : Nat) (cs : Array Value) : Ext (fun i => i = g) w (w.setRow g cs) := ⟨rfl, rfl, rfl, by simp [World.setRow], fun k hk hf => setRow_other w g k cs hf⟩
theorem EM.setpage (h : EM w c pg ps S inp out) {k g : Nat} {bs : List Int} (hk : ps[k]? = some (some (g, bs))) (o : Nat) (cs : List Int) (ho : o + cs.length ≤ 4096) (hb : ∀ b ∈ cs, 0 ≤ b ∧ b < 256) :
    Did w (w.setRow g (byteRow (splB bs o cs))) c pg ps S (ps.set k (some (g, splB bs o cs))) S inp out := by
  have hnd := h.nodup
  have hgb : g ∈ blocks ps := by unfold blocks; rw [List.mem_filterMap]; exact ⟨_, List.mem_of_getElem? hk, rfl⟩
  have hgf : g ∈ foot c pg ps S := by simp only [foot, List.mem_cons, List.mem_append]; exact .inr (.inr (.inl hgb))
  have xE := setRow_ext w g (byteRow (splB bs o cs))
  have hf : foot c pg (ps.set k (some (g, splB bs o cs))) S = foot c pg ps S := by unfold foot; rw [blocks_same hk]
  have hn1 := hnd
  unfold foot at hn1
  obtain ⟨a1, hn2⟩ := List.nodup_cons.1 hn1
  obtain ⟨a2, hn3⟩ := List.nodup_cons.1 hn2
  obtain ⟨a3, a4, a5⟩ := List.nodup_append.1 hn3
  obtain ⟨hg, hlen, hbs⟩ := h.page g bs (List.mem_of_getElem? hk)
  refine ⟨⟨xE.at h.head (fun e => a1 (e ▸ by simp [hgb])), h.nreg, h.regIn, h.pcIn, h.codeIn, ?_, by simp [h.npg], ?_, by rw [hf]; exact hnd, ?_, ?_⟩, xE.mono (fun i hi => by subst hi; exact hgf), fun i hi => .inl (by rw [hf] at hi; exact hi)⟩
  · rw [map_same pgVal ps k _ (some (g, splB bs o cs)) hk rfl]
    exact xE.at h.pages (fun e => a2 (e ▸ by simp [hgb]))
  · intro g' bs' hm
    obtain ⟨i, hi⟩ := List.getElem?_of_mem hm
    by_cases e : k = i
    · subst e
      rw [List.getElem?_set_self (List.getElem?_eq_some_iff.1 hk).1] at hi
      simp only [Option.some.injEq, Prod.mk.injEq] at hi
      obtain ⟨rfl, rfl⟩ := hi
      exact ⟨setRow_heap w g _ _ 5 (0, 0) hg, by rw [splB_len (by omega)]; exact hlen, splB_mem hbs hb⟩
    · rw [List.getElem?_set_ne e] at hi
      have hne : g' ≠ g := fun e2 => e (blocks_inj ps a3 k i g bs bs' hk (e2 ▸ hi))
      obtain ⟨h1, h2⟩ := h.page g' bs' (List.mem_of_getElem? hi)
      exact ⟨xE.at h1 hne, h2⟩
  · obtain ⟨A, cap, e1, hl, hC, hA⟩ := h.inS
    refine ⟨A, cap, e1, hl, ?_, fun ad ha => ⟨by rw [hf]; exact (hA ad ha).1, Nat.lt_of_lt_of_le (hA ad ha).2 xE.size⟩⟩
    refine ⟨hC.1, hC.2.1, fun h0 => ?_⟩
    obtain ⟨ad, ha, hx⟩ := hC.2.2 h0
    refine ⟨ad, ha, fun j p hj => ?_⟩
    obtain ⟨cs, h1, h2, h3⟩ := hx j p hj
    refine ⟨cs, h1, h2, fun q v hq => ?_⟩
    have hb := xE.block ad.block (hA ad ha).2 (fun e2 => (hA ad ha).1 (by rw [e2]; exact hgf))
    have := h3 q v hq
    have hbl : (ad.add (j * (Kd.int .u8).sz + q)).block = ad.block := by unfold Addr.add; split <;> rfl
    unfold World.cell? at this ⊢
    rw [hbl] at this ⊢
    rw [hb]; exact this
  · obtain ⟨base, hR⟩ := h.outS
    refine ⟨base, Kd.R_mono (Kd.R_step (Kd.R_tight rfl hR) (fun j hj hlt => xE.block j hlt (fun e2 => a5 g hgb j (by simp [← hj]) e2.symm))) (fun _ _ => trivial)⟩
/-- The memory with bytes put into it. -/
theorem byte_spl {k g : Nat} {bs : List Int} (hk : ps[k]? = some (some (g, bs))) (hl : bs.length = 4096) (o : Nat) (cs : List Int) (ho : o + cs.length ≤ 4096) (a : Nat) :
    byteAt (ps.set k (some (g, splB bs o cs))) a = if k * 4096 + o ≤ a ∧ a < k * 4096 + o + cs.length then (cs[a - (k * 4096 + o)]?).getD 0 else byteAt ps a := by
  unfold byteAt
  by_cases e : k = a / 4096
  · subst e
    rw [List.getElem?_set_self (List.getElem?_eq_some_iff.1 hk).1, hk]
    simp only
    rw [splB_get (by omega)]
    by_cases e2 : o ≤ a % 4096 ∧ a % 4096 < o + cs.length
    · rw [if_pos e2, if_pos (by omega)]
      congr 2; omega
    · rw [if_neg e2, if_neg (by omega)]
  · rw [List.getElem?_set_ne e, if_neg (by omega)]
end Go.Proofs.YtejhnlljddjicaaDoor.Ma
namespace Go.Proofs.YtejhnlljddjicaaDoor.Ma
open Go.RowKit Go.Proofs.YtejhnlljddjicaaDoor.PEm Go.Proofs.YtejhnlljddjicaaDoorW.PrintWords Go.Proofs.YtejhnlljddjicaaDoorW.PrintLast Go.Proofs.YtejhnlljddjicaaDoorW.PrintMore Go.Proofs.YtejhnlljddjicaaDoor.La Go.Proofs.YtejhnlljddjicaaDoor.Ea
set_option linter.unusedVariables false
set_option linter.unusedSimpArgs false
variable {w w' : World} {c pg : Nat} {ps ps' : Pages} {S S' : Cpu} {inp out inp' out' : List Int}
def cutA (A : Option Addr) (k m : Nat) : Option Addr := if k = m then A else A.map (·.add m)
theorem cut_run (A : Option Addr) (n k m : Nat) (hm : m ≤ n) (W : World) : (Instr.slice 22 (.slice A n k) (some (.int .i64 m)) none none).run Tryd.prog W = .ok (.slice (cutA A k m) (n - m) (k - m)) W := by
  obtain ⟨i, hi, hz, hs, hb⟩ := info5
  have hel : Tryd.prog.elem 22 = 5 := by simp [Program.elem, Tryd.underlying22]
  have hu : Tryd.prog.underlying 22 = some (.slice (Tryd.prog.elem 22)) := by rw [hel]; exact Tryd.underlying22
  rw [run_slice_l W 22 A n k hu .i64 m (by omega) (by omega), hel]
  unfold cutA
  cases A <;> simp [sizeOf, typeInfo, hi, hs, sliced, Result.andThen]
theorem cutA_block {A : Option Addr} {k m : Nat} {ad : Addr} (h : cutA A k m = some ad) : ∃ a0, A = some a0 ∧ ad.block = a0.block := by
  unfold cutA at h
  split at h
  · exact ⟨ad, h, rfl⟩
  · cases A with
    | none => cases h
    | some a0 =>
      simp only [Option.map_some, Option.some.injEq] at h
      exact ⟨a0, rfl, by rw [← h]; exact add_block a0 m⟩
theorem page_cut (g o : Nat) (ho : o < 4096) (W : World) : (Instr.slice 22 (.slice (some ⟨g, 0, none⟩) 4096 4096) (some (.int .i64 o)) none none).run Tryd.prog W = .ok (.slice (some ⟨g, o, none⟩) (4096 - o) (4096 - o)) W := by
  rw [cut_run _ _ _ _ (by omega)]
  unfold cutA
  rw [if_neg (by omega)]
  simp only [Option.map_some, Addr.add]
  split
  · next e => simp_all
  · simp
theorem C_cut {A : Option Addr} {n k m : Nat} {xs : List Int} (h : Kd.C (Kd.int .u8) w A n xs) (hm : m ≤ n) (hk : n ≤ k) : Kd.C (Kd.int .u8) w (cutA A k m) (n - m) (xs.drop m) := by
  have hR : ReadsInt w .u8 A n xs := Kd.reads_of_C (enc := Value.int .u8) (d := (0 : Int)) (h1 := fun _ => rfl) h
  exact Kd.C_of_reads (enc := Value.int .u8) (d := (0 : Int)) (h1 := fun _ => rfl) (hR.drop_ m hm hk)
theorem C_ext {F : Nat → Prop} {A : Option Addr} {n : Nat} {xs : List Int} (h : Kd.C (Kd.int .u8) w A n xs) (x : Ext F w w') (hA : ∀ ad, A = some ad → ¬ F ad.block ∧ ad.block < w.heap.size) : Kd.C (Kd.int .u8) w' A n xs := by
  refine ⟨h.1, h.2.1, fun h0 => ?_⟩
  obtain ⟨ad, ha, hx⟩ := h.2.2 h0
  refine ⟨ad, ha, fun j p hj => ?_⟩
  obtain ⟨cs, h1, h2, h3⟩ := hx j p hj
  refine ⟨cs, h1, h2, fun q v hq => ?_⟩
  have hb := x.block ad.block (hA ad ha).2 (hA ad ha).1
  have := h3 q v hq
  have hbl : (ad.add (j * (Kd.int .u8).sz + q)).block = ad.block := by unfold Addr.add; split <;> rfl
  unfold World.cell? at this ⊢
  rw [hbl] at this ⊢
  rw [hb]; exact this
theorem C_src {A : Option Addr} {n m : Nat} {xs : List Int} (h : Kd.C (Kd.int .u8) w A n xs) (hm : m ≤ n) (h0 : 0 < n) : ∃ ad, A = some ad ∧ ∀ j v, ((xs.take m).map (Value.int .u8 ·))[j]? = some v → w.cell? (ad.add j) = some v := by
  have hR : ReadsInt w .u8 A n xs := Kd.reads_of_C (enc := Value.int .u8) (d := (0 : Int)) (h1 := fun _ => rfl) h
  obtain ⟨ad, e, hx⟩ := hR.2.2 h0
  refine ⟨ad, e, fun j v hj => ?_⟩
  simp only [List.getElem?_map, Option.map_eq_some_iff] at hj
  obtain ⟨b, hb, rfl⟩ := hj
  have hjm : j < m ∧ xs[j]? = some b := by
    rw [List.getElem?_take] at hb
    split at hb
    · next h => exact ⟨h, hb⟩
    · cases hb
  have hjn : j < n := by omega
  have := hx j hjn
  rw [show xs.getD j 0 = b by simp [hjm.2]] at this
  exact this
end Go.Proofs.YtejhnlljddjicaaDoor.Ma
namespace Go.Proofs.YtejhnlljddjicaaDoor.Ma
open Go.RowKit Go.Proofs.YtejhnlljddjicaaDoor.PEm Go.Proofs.YtejhnlljddjicaaDoorW.PrintWords Go.Proofs.YtejhnlljddjicaaDoorW.PrintLast Go.Proofs.YtejhnlljddjicaaDoorW.PrintMore Go.Proofs.YtejhnlljddjicaaDoor.La Go.Proofs.YtejhnlljddjicaaDoor.Ea
set_option linter.unusedVariables false
set_option linter.unusedSimpArgs false
variable {w w' : World} {c pg : Nat} {ps ps' : Pages} {S S' : Cpu} {inp out inp' out' : List Int}
/-- The memory with bytes laid from a place on. -/
def laidF (m : Nat → Int) (at0 : Nat) (xs : List Int) (i : Nat) : Int := if at0 ≤ i ∧ i < at0 + xs.length then (xs[i - at0]?).getD 0 else m i
set_option maxHeartbeats 4000000 in
set_option maxRecDepth 100000 in
theorem put_calls (h : EM w c pg ps S inp out) (at0 : Nat) (A : Option Addr) (k : Nat) (xs : List Int) (hC : Kd.C (Kd.int .u8) w A xs.length xs) (hk : xs.length ≤ k) (hA : ∀ ad, A = some ad → ad.block ∉ foot c pg ps S ∧ ad.block < w.heap.size) (hx : ∀ b ∈ xs, 0 ≤ b ∧ b < 256) (hat : at0 + xs.length ≤ 8388608) :
    Calls Tryd.prog 26 #[.pointer (some ⟨c, 0, none⟩), .int .i64 at0, .slice A xs.length k] w fun e w' => e = .returned (.tuple #[]) ∧ ∃ ps', Did w w' c pg ps S ps' S inp out ∧ ∀ i, byteAt ps' i = laidF (byteAt ps) at0 xs i := by
  obtain ⟨N, hN⟩ : ∃ N, N = xs.length := ⟨_, rfl⟩
  rw [← hN] at hC hk hat ⊢
  have HN := Aside0.mk hN
  have H := Aside0.mk h
  have HX := Aside0.mk hx
  have HAT := Aside0.mk hat
  have HC := Aside0.mk hC
  have HK := Aside0.mk hk
  have HA := Aside0.mk hA
  clear h hC hk hA hx hat hN
  go_enter Tryd.func26, Tryd.ntmps26
  go_wp2_with (fail)
  go_loopg [1, 2] N (fun kq v1 v2 wr => ∃ (j : Nat) (psj : Pages) (Aj : Option Addr) (kj : Nat), j + kq = N ∧ v1 = .int .i64 ((at0 + j : Nat) : Int) ∧ v2 = .slice Aj (N - j) kj ∧ Aside0 (N - j ≤ kj) ∧ Aside0 (Kd.C (Kd.int .u8) w Aj (N - j) (xs.drop j)) ∧ Aside0 (∀ ad, Aj = some ad → ad.block ∉ foot c pg ps S ∧ ad.block < w.heap.size) ∧ Aside0 (Did w wr c pg ps S psj S inp out) ∧ Aside0 (∀ i, byteAt psj i = laidF (byteAt ps) at0 (xs.take j) i))
  case atStart => exact ⟨0, ps, A, k, by omega, rfl, rfl, ⟨HK.out⟩, ⟨HC.out⟩, ⟨HA.out⟩, ⟨Did.same H.out (Below.refl _ _)⟩, ⟨fun i => by unfold laidF; simp; omega⟩⟩
  case round =>
    obtain ⟨j, psj, Aj, kj, hj, rfl, rfl, HKj, HCj, HAj, HD, HP⟩ := hrel
    by_cases hlt : j < N
    · have HJ := Aside0.mk hj
      have HLT := Aside0.mk hlt
      have hl0 : ((0 : Nat) : Int) < ((N - j : Nat) : Int) := by omega
      have hatj : at0 + j < 8388608 := by have := HAT.out; omega
      obtain ⟨q, hq⟩ : ∃ q, q = at0 + j := ⟨_, rfl⟩
      rw [← hq] at hatj ⊢
      have HQ := Aside0.mk hq
      have HQ2 := Aside0.mk hatj
      have hm : Int.tmod ((q : Nat) : Int) 4096 = ((q % 4096 : Nat) : Int) := by rw [Int.tmod_eq_emod_of_nonneg (by omega)]; omega
      clear hj hlt hq hatj
      have in5 := Aside0.mk (show (Tryd.prog.info? 5).map (·.size) = some 1 by kernel_rfl)
      go_upto_region 2 with (first | (go_at_call 35; refine (page_calls HD.out.em (q : Int) (by omega) (by have := HQ2.out; omega)).mono ?_; rintro e W5 ⟨g, bs, ps5, rfl, hd5, hk5, hm5⟩; have E5 := HD.out.trans hd5; have C5 := C_ext HCj.out E5.ext (fun ad ha => HAj.out ad ha); obtain ⟨m, hmm⟩ : ∃ m, m = min (N - j) (4096 - q % 4096) := ⟨_, rfl⟩; obtain ⟨ad, rfl, hs⟩ := C_src C5 (m := m) (by omega) (by have := HLT.out; omega); obtain ⟨hg, hlen, hbs⟩ := E5.em.page g bs (List.mem_of_getElem? hk5); have hcut := page_cut g (q % 4096) (Nat.mod_lt _ (by decide)); obtain ⟨cs, hcs⟩ : ∃ cs, cs = ((xs.drop j).take m).map (Value.int .u8 ·) := ⟨_, rfl⟩; have hcl : cs.length = m := (by rw [hcs]; have := HN.out; simp only [List.length_map, List.length_take, List.length_drop]; omega); rw [← hcs] at hs; have PG := Aside0.mk hg; have PL := Aside0.mk (And.intro hlen hbs); have SR := Aside0.mk hs; have MM := Aside0.mk hmm; have CS := Aside0.mk hcs; have CL := Aside0.mk hcl; have DE := Aside0.mk E5; have PM := Aside0.mk hm5; have PK := Aside0.mk hk5; clear E5 hd5 hk5 hm5 C5 hs hg hlen hbs hmm hcs hcl) | (refine wpList_copy_own rfl (.tmp 15) (.tmp 16) 22 22 rfl 5 Tryd.underlying22 in5.out g (q % 4096) (4096 - q % 4096) (4096 - q % 4096) ad (N - j) kj rfl rfl (byteRow bs) 5 PG.out cs (by rw [CL.out, MM.out]) SR.out (by have := MM.out; have := PL.out.1; rw [CL.out]; simp only [byteRow, List.size_toArray, List.length_map]; omega) (by intro v hv; rw [CS.out] at hv; simp only [List.mem_map] at hv; obtain ⟨b, _, rfl⟩ := hv; rfl) ?_; rw [CL.out]))
      have hrow : (List.take (q % 4096) (byteRow bs).toList ++ (cs ++ List.drop (q % 4096 + m) (byteRow bs).toList)).toArray = byteRow (splB bs (q % 4096) ((xs.drop j).take m)) := by rw [← splB_row, ← CS.out, CL.out]
      rw [hrow]
      have hcm : ((xs.drop j).take m).length = m := by have := CL.out; rw [CS.out] at this; simpa using this
      have DX := Aside0.mk (DE.out.trans (DE.out.em.setpage PK.out (q % 4096) ((xs.drop j).take m) (by have := MM.out; omega) (fun b hb => HX.out b (List.mem_of_mem_drop (List.mem_of_mem_take hb)))))
      have BX := Aside0.mk (fun i => byte_spl PK.out PL.out.1 (q % 4096) ((xs.drop j).take m) (by have := MM.out; omega) i)
      have CM := Aside0.mk hcm
      generalize W5.setRow g (byteRow (splB bs (q % 4096) ((xs.drop j).take m))) = W6 at DX ⊢
      clear hrow hcut hcm
      have hcut2 := cut_run (some ad) (N - j) kj m (by have := MM.out; omega)
      have hw2 : IntKind.i64.wrap ((q : Int) + (m : Int)) = (q : Int) + (m : Int) := IntWalk.i64_in _ (by have := HQ2.out; have := MM.out; omega)
      clear hm in5 hl0
      go_region_law (fail)
      go_wp2_with (fail)
      go_roundg (N - (j + m))
      case measure => have := HJ.out; have := HLT.out; have := MM.out; omega
      case rel =>
        have mm := MM.out
        have hj := HJ.out
        have hq := HQ.out
        have hlt := HLT.out
        have hN := HN.out
        have hq2 := HQ2.out
        refine ⟨j + m, _, cutA (some ad) kj m, kj - m, by omega, by rw [← Nat.add_assoc, ← hq]; simp, by rw [Nat.sub_add_eq], ⟨by have := HKj.out; omega⟩, ⟨?_⟩, ⟨?_⟩, ⟨DX.out.then_below (Below.refl _ _).drew⟩, ⟨fun i => ?_⟩⟩
        · have := C_cut HCj.out (m := m) (by omega) HKj.out
          rw [List.drop_drop] at this
          rw [Nat.sub_add_eq]
          exact this
        · intro a' ha'
          obtain ⟨a0, e0, eb⟩ := cutA_block ha'
          rw [eb]; exact HAj.out a0 e0
        · rw [BX.out, PM.out, HP.out, CM.out, show ((q : Int) / 4096).toNat * 4096 + q % 4096 = q by omega]
          unfold laidF
          have l1 : (xs.take (j + m)).length = j + m := by simp; omega
          have l2 : (xs.take j).length = j := by simp; omega
          rw [l1, l2]
          by_cases h1 : q ≤ i ∧ i < q + m
          · rw [if_pos h1, if_pos (by omega), List.getElem?_take, if_pos (by omega), List.getElem?_drop, List.getElem?_take, if_pos (by omega)]
            congr 2; omega
          · rw [if_neg h1]
            by_cases h2 : at0 ≤ i ∧ i < at0 + j
            · rw [if_pos h2, if_pos (by omega), List.getElem?_take, if_pos (by omega), List.getElem?_take, if_pos (by omega)]
            · rw [if_neg h2, if_neg (by omega)]
    · have hj2 : j = N := by omega
      subst hj2
      have hHN := HN.out
      clear hlt hj
      have hz : j - j = 0 := by omega
      rw [hz]
      go_wp2_with (fail)
      all_goals go_end0
      all_goals refine ⟨rfl, psj, HD.out, fun i => ?_⟩
      all_goals (rw [HP.out, hHN, List.take_length])
end Go.Proofs.YtejhnlljddjicaaDoor.Ma
