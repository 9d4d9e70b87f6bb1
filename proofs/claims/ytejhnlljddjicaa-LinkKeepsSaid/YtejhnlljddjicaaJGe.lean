/- The document's machine (mortiseref21.M) in the world: its cells, its pages; what stays. No condition beyond those each theorem names. And more of the kind: 6 texts in one. -/
import Derived.Test.YtejhnlljddjicaaJGd
import Derived.Deep.RegionLaw
namespace Go.Proofs.Ytejhnlljddjicaa.Ma
open Go.RowKit Go.Proofs.Ytejhnlljddjicaa.PLk Go.Proofs.YtejhnlljddjicaaW.PrintWords Go.Proofs.YtejhnlljddjicaaW.PrintLast Go.Proofs.YtejhnlljddjicaaW.PrintMore
set_option linter.unusedVariables false
set_option linter.unusedSimpArgs false
variable {fx : Value × Int} {w w' : World} {c pg : Nat} {ps ps' : Pages} {S S' : Cpu} {inp out inp' out' : List Int}
theorem grown_ext {r : Option Nat} (h : w.grownBy w' r) : Ext (fun i => r = some i) w w' := ⟨h.os, h.tape, h.output, h.size, fun k hk hf => h.block k hk (fun e => hf e.symm)⟩
/-- The cells of the document's machine. fx: the image's bytes and entry. -/
def xRow (pg : Nat) (fx : Value × Int) (S : Cpu) : List Value :=
  [fx.1, .int .i64 S.code, .int .i64 fx.2, S.inV, .slice (some ⟨pg, 0, none⟩) 2048 2048, .int .u32 S.pc] ++ (S.regs.map (.int .u32 ·) ++ [.int .i64 S.steps, S.outV, .int .i64 S.ended, .int .i64 S.exit])
structure XM (w : World) (c pg : Nat) (fx : Value × Int) (ps : Pages) (S : Cpu) (inp out : List Int) : Prop where
  head : w.heap[c]? = some (.cells (xRow pg fx S).toArray 98 (0, 0))
  nreg : S.regs.length = 16
  regIn : ∀ v ∈ S.regs, 0 ≤ v ∧ v < 4294967296
  pcIn : 0 ≤ S.pc ∧ S.pc < 4294967296
  codeIn : 4 ≤ S.code ∧ S.code ≤ 1048576
  pages : w.heap[pg]? = some (.cells (ps.map pgVal).toArray 23 (0, 0))
  npg : ps.length = 2048
  page : ∀ g bs, some (g, bs) ∈ ps → w.heap[g]? = some (.cells (byteRow bs) 5 (0, 0)) ∧ bs.length = 4096 ∧ ∀ b ∈ bs, 0 ≤ b ∧ b < 256
  nodup : (foot c pg ps S).Nodup
  inS : ∃ A cap, S.inV = .slice A inp.length cap ∧ inp.length ≤ cap ∧ Kd.C (Kd.int .u8) w A inp.length inp ∧ ∀ ad, A = some ad → 0 < inp.length → ad.block ∉ foot c pg ps S ∧ ad.block < w.heap.size
  outS : ∃ base, Kd.R (Kd.int .u8) 5 w base (fun _ => True) S.outV out
theorem xcpu_cell {g pg : Nat} {S : Cpu} (h : w.heap[g]? = some (.cells (xRow pg fx S).toArray 98 (0, 0))) (i : Nat) : w.cell? ⟨g, i, none⟩ = (xRow pg fx S)[i]? := by
  rw [blk_cell h, List.getElem?_toArray]
theorem xcpu_froz {g pg : Nat} {S : Cpu} (h : w.heap[g]? = some (.cells (xRow pg fx S).toArray 98 (0, 0))) (i : Nat) : w.frozen? ⟨g, i, none⟩ = false := blk_frozen h i
theorem xcpu_at (hn : S.regs.length = 16) (i : Nat) : (xRow pg fx S)[i]? = if i = 0 then some fx.1 else if i = 1 then some (.int .i64 S.code) else if i = 2 then some (.int .i64 fx.2) else if i = 3 then some S.inV else if i = 4 then some (.slice (some ⟨pg, 0, none⟩) 2048 2048) else if i = 5 then some (.int .u32 S.pc)
    else if i < 22 then (S.regs[i - 6]?).map (.int .u32 ·) else if i = 22 then some (.int .i64 S.steps) else if i = 23 then some S.outV else if i = 24 then some (.int .i64 S.ended) else if i = 25 then some (.int .i64 S.exit) else none := by
  unfold xRow
  by_cases h0 : i < 6
  · rw [List.getElem?_append_left (by simpa using h0)]
    rcases (by omega : i = 0 ∨ i = 1 ∨ i = 2 ∨ i = 3 ∨ i = 4 ∨ i = 5) with rfl | rfl | rfl | rfl | rfl | rfl <;> rfl
  · rw [List.getElem?_append_right (by simp; omega), if_neg (by omega), if_neg (by omega), if_neg (by omega), if_neg (by omega), if_neg (by omega), if_neg (by omega)]
    simp only [List.length_cons, List.length_nil]
    by_cases h1 : i < 22
    · rw [if_pos h1, List.getElem?_append_left (by simp; omega), List.getElem?_map]
    · rw [if_neg h1, List.getElem?_append_right (by simp; omega)]
      simp only [List.length_map, hn]
      by_cases h2 : i < 26
      · rcases (by omega : i = 22 ∨ i = 23 ∨ i = 24 ∨ i = 25) with rfl | rfl | rfl | rfl <;> rfl
      · rw [List.getElem?_eq_none (by simp; omega), if_neg (by omega), if_neg (by omega), if_neg (by omega), if_neg (by omega)]
theorem XM.foot_lt (h : XM w c pg fx ps S inp out) : ∀ i ∈ foot c pg ps S, i < w.heap.size := by
  intro i hi
  simp only [foot, List.mem_cons, List.mem_append, blocks, List.mem_filterMap] at hi
  rcases hi with rfl | rfl | ⟨p, hp, e⟩ | hi
  · exact lt_of_at h.head
  · exact lt_of_at h.pages
  · cases p with
    | none => cases e
    | some q =>
      obtain ⟨g, bs⟩ := q
      simp only [Option.map_some, Option.some.injEq] at e
      subst e
      exact lt_of_at (h.page g bs hp).1
  · obtain ⟨base, hR⟩ := h.outS
    exact Kd.R_lt hR i (by simpa using hi)
/-- What a machine keeps when nothing of it is written. -/
theorem XM.ext {F : Nat → Prop} (h : XM w c pg fx ps S inp out) (k : Ext F w w') (hF : ∀ i ∈ foot c pg ps S, ¬ F i) (hI : ∀ A n cp ad, S.inV = .slice A n cp → A = some ad → ¬ F ad.block) : XM w' c pg fx ps S inp out := by
  have hc : c ∈ foot c pg ps S := by simp [foot]
  have hp : pg ∈ foot c pg ps S := by simp [foot]
  refine ⟨k.at h.head (hF c hc), h.nreg, h.regIn, h.pcIn, h.codeIn, k.at h.pages (hF pg hp), h.npg, ?_, h.nodup, ?_, ?_⟩
  · intro g bs hm
    obtain ⟨h1, h2⟩ := h.page g bs hm
    refine ⟨k.at h1 (hF g ?_), h2⟩
    simp only [foot, List.mem_cons, List.mem_append, blocks, List.mem_filterMap]
    exact .inr (.inr (.inl ⟨_, hm, rfl⟩))
  · obtain ⟨A, cap, e, hl, hC, hA⟩ := h.inS
    refine ⟨A, cap, e, hl, ?_, fun ad ha h0 => ⟨(hA ad ha h0).1, Nat.lt_of_lt_of_le (hA ad ha h0).2 k.size⟩⟩
    refine ⟨hC.1, hC.2.1, fun h0 => ?_⟩
    obtain ⟨ad, ha, hx⟩ := hC.2.2 h0
    refine ⟨ad, ha, fun j p hj => ?_⟩
    obtain ⟨cs, h1, h2, h3⟩ := hx j p hj
    refine ⟨cs, h1, h2, fun q u hq => ?_⟩
    have hb := k.block ad.block (hA ad ha h0).2 (hI A _ _ ad e ha)
    have := h3 q u hq
    have hbl : (ad.add (j * (Kd.int .u8).sz + q)).block = ad.block := by unfold Addr.add; split <;> rfl
    unfold World.cell? at this ⊢
    rw [hbl] at this ⊢
    rw [hb]; exact this
  · obtain ⟨base, hR⟩ := h.outS
    refine ⟨base, Kd.R_mono (Kd.R_step (Kd.R_mono (Kd.R_tight rfl hR) (fun k hk => hk)) (fun j hj hlt => k.block j hlt (hF j ?_))) (fun _ _ => trivial)⟩
    simp only [foot, List.mem_cons, List.mem_append]
    exact .inr (.inr (.inr (by simp [← hj])))
theorem XM.k1 (h : XM w c pg fx ps S inp out) : w.cell? ⟨c, 1, none⟩ = some (.int .i64 S.code) := by rw [xcpu_cell h.head, xcpu_at h.nreg]; rfl
theorem XM.kin (h : XM w c pg fx ps S inp out) : w.cell? ⟨c, 3, none⟩ = some (S.inV) := by rw [xcpu_cell h.head, xcpu_at h.nreg]; rfl
theorem XM.kpg (h : XM w c pg fx ps S inp out) : w.cell? ⟨c, 4, none⟩ = some (.slice (some ⟨pg, 0, none⟩) 2048 2048) := by rw [xcpu_cell h.head, xcpu_at h.nreg]; rfl
theorem XM.kpc (h : XM w c pg fx ps S inp out) : w.cell? ⟨c, 5, none⟩ = some (.int .u32 S.pc) := by rw [xcpu_cell h.head, xcpu_at h.nreg]; rfl
theorem XM.kst (h : XM w c pg fx ps S inp out) : w.cell? ⟨c, 22, none⟩ = some (.int .i64 S.steps) := by rw [xcpu_cell h.head, xcpu_at h.nreg]; rfl
theorem XM.kout (h : XM w c pg fx ps S inp out) : w.cell? ⟨c, 23, none⟩ = some (S.outV) := by rw [xcpu_cell h.head, xcpu_at h.nreg]; rfl
theorem XM.kend (h : XM w c pg fx ps S inp out) : w.cell? ⟨c, 24, none⟩ = some (.int .i64 S.ended) := by rw [xcpu_cell h.head, xcpu_at h.nreg]; rfl
theorem XM.kex (h : XM w c pg fx ps S inp out) : w.cell? ⟨c, 25, none⟩ = some (.int .i64 S.exit) := by rw [xcpu_cell h.head, xcpu_at h.nreg]; rfl
theorem XM.kr (h : XM w c pg fx ps S inp out) {a : Nat} {v : Int} (hv : S.regs[a]? = some v) : w.cell? ⟨c, 6 + a, none⟩ = some (.int .u32 v) := by
  have : a < 16 := by rw [← h.nreg]; exact (List.getElem?_eq_some_iff.1 hv).1
  rw [xcpu_cell h.head, xcpu_at h.nreg, if_neg (by omega), if_neg (by omega), if_neg (by omega), if_neg (by omega), if_neg (by omega), if_neg (by omega), if_pos (by omega), show 6 + a - 6 = a by omega, hv]; rfl
theorem XM.fz (h : XM w c pg fx ps S inp out) (i : Nat) : w.frozen? ⟨c, i, none⟩ = false := xcpu_froz h.head i
/-- What a function does to a machine: it stays one; nothing else turns. -/
structure XDid (w w' : World) (c pg : Nat) (fx : Value × Int) (ps : Pages) (S : Cpu) (ps' : Pages) (S' : Cpu) (inp' out' : List Int) : Prop where
  em : XM w' c pg fx ps' S' inp' out'
  ext : Ext (fun i => i ∈ foot c pg ps S) w w'
  new : ∀ i ∈ foot c pg ps' S', i ∈ foot c pg ps S ∨ w.heap.size ≤ i
theorem XDid.same (h : XM w c pg fx ps S inp out) (k : Below w.heap.size w w') : XDid w w' c pg fx ps S ps S inp out :=
  ⟨h.ext (Ext.of_below (F := fun _ => False) k) (fun _ _ f => f) (fun _ _ _ _ _ _ f => f), Ext.of_below k, fun _ h => .inl h⟩
theorem XDid.trans {w1 w2 : World} {ps2 : Pages} {S2 : Cpu} {i2 o2 : List Int} (h : XDid w w1 c pg fx ps S ps' S' inp' out') (k : XDid w1 w2 c pg fx ps' S' ps2 S2 i2 o2) : XDid w w2 c pg fx ps S ps2 S2 i2 o2 :=
  ⟨k.em, h.ext.trans k.ext (fun i hi hg => (h.new i hg).elim id (fun h' => absurd hi (by omega))), fun i hi => (k.new i hi).elim (h.new i) (fun h' => .inr (Nat.le_trans h.ext.size h'))⟩
theorem XDid.pre {w1 : World} (k : Below w.heap.size w w1) (h : XDid w1 w' c pg fx ps S ps' S' inp' out') : XDid w w' c pg fx ps S ps' S' inp' out' :=
  ⟨h.em, (Ext.of_below (F := fun i => i ∈ foot c pg ps S) k).trans h.ext (fun _ _ h => h), fun i hi => (h.new i hi).imp id (fun h' => Nat.le_trans k.size h')⟩
theorem XDid.then_below {w2 : World} (h : XDid w w' c pg fx ps S ps' S' inp' out') (k : Below w'.heap.size w' w2) : XDid w w2 c pg fx ps S ps' S' inp' out' := h.trans (XDid.same h.em k)
theorem XM.below (h : XM w c pg fx ps S inp out) (k : Below w.heap.size w w') : XM w' c pg fx ps S inp out := (XDid.same h k).em
/-- One of the machine's own cells is written. -/
theorem XM.set (h : XM w c pg fx ps S inp out) (i : Nat) (u : Value) (e : (xRow pg fx S).set i u = xRow pg fx S') (hn : S'.regs.length = 16) (hr : ∀ v ∈ S'.regs, 0 ≤ v ∧ v < 4294967296) (hp : 0 ≤ S'.pc ∧ S'.pc < 4294967296)
    (hc : S'.code = S.code) (hi : S'.inV = S.inV) (ho : S'.outV = S.outV) : XDid w (w.setCell ⟨c, i, none⟩ u) c pg fx ps S ps S' inp out := by
  have hf : foot c pg ps S' = foot c pg ps S := by unfold foot; rw [ho]
  have hnd := h.nodup
  have xE : Ext (fun k => k = c) w (w.setCell ⟨c, i, none⟩ u) := Ext.setCell (F := fun k => k = c) (p := ⟨c, i, none⟩) (Ext.refl _ _) (Or.inl rfl) u
  have hnc : ∀ k ∈ pg :: (blocks ps ++ S.outV.ownBlock.toList), ¬ k = c := by
    intro k hk e
    unfold foot at hnd
    exact (List.nodup_cons.1 hnd).1 (e ▸ hk)
  refine ⟨⟨?_, hn, hr, hp, by rw [hc]; exact h.codeIn, xE.at h.pages (hnc pg (by simp)), h.npg, ?_, by rw [hf]; exact hnd, ?_, ?_⟩, xE.mono (fun k hk => by subst hk; simp [foot]), fun k hk => .inl (by rw [hf] at hk; exact hk)⟩
  · refine blk_put h.head i u ?_
    rw [← e]
    apply Array.ext'
    simp
  · intro g bs hm
    obtain ⟨h1, h2⟩ := h.page g bs hm
    refine ⟨xE.at h1 (hnc g ?_), h2⟩
    simp only [List.mem_cons, List.mem_append, blocks, List.mem_filterMap]
    exact .inr (.inl ⟨_, hm, rfl⟩)
  · obtain ⟨A, cap, e1, hl, hC, hA⟩ := h.inS
    refine ⟨A, cap, by rw [hi]; exact e1, hl, ?_, fun ad ha h0 => ⟨by rw [hf]; exact (hA ad ha h0).1, Nat.lt_of_lt_of_le (hA ad ha h0).2 xE.size⟩⟩
    refine ⟨hC.1, hC.2.1, fun h0 => ?_⟩
    obtain ⟨ad, ha, hx⟩ := hC.2.2 h0
    refine ⟨ad, ha, fun j p hj => ?_⟩
    obtain ⟨cs, h1, h2, h3⟩ := hx j p hj
    refine ⟨cs, h1, h2, fun q v hq => ?_⟩
    have hb := xE.block ad.block (hA ad ha h0).2 (fun e2 => (hA ad ha h0).1 (by rw [e2]; simp [foot]))
    have := h3 q v hq
    have hbl : (ad.add (j * (Kd.int .u8).sz + q)).block = ad.block := by unfold Addr.add; split <;> rfl
    unfold World.cell? at this ⊢
    rw [hbl] at this ⊢
    rw [hb]; exact this
  · obtain ⟨base, hR⟩ := h.outS
    rw [ho]
    refine ⟨base, Kd.R_mono (Kd.R_step (Kd.R_tight rfl hR) (fun j hj hlt => xE.block j hlt (hnc j ?_))) (fun _ _ => trivial)⟩
    simp only [List.mem_cons, List.mem_append]
    exact .inr (.inr (by simp [← hj]))
theorem xrow_pc (v : Int) : (xRow pg fx S).set 5 (.int .u32 v) = xRow pg fx { S with pc := v } := by simp [xRow]
theorem xrow_reg (hn : S.regs.length = 16) (a : Nat) (ha : a < 16) (v : Int) : (xRow pg fx S).set (6 + a) (.int .u32 v) = xRow pg fx { S with regs := S.regs.set a v } := by
  unfold xRow
  rw [List.set_append_right _ _ (by simp), List.set_append_left _ _ (by simp; omega)]
  simp [List.map_set, show 6 + a - 6 = a by omega]
theorem xrow_tail (hn : S.regs.length = 16) (k : Nat) (hk : k < 4) (u : Value) : (xRow pg fx S).set (22 + k) u = [fx.1, .int .i64 S.code, .int .i64 fx.2, S.inV, .slice (some ⟨pg, 0, none⟩) 2048 2048, .int .u32 S.pc] ++ (S.regs.map (.int .u32 ·) ++ ([.int .i64 S.steps, S.outV, .int .i64 S.ended, .int .i64 S.exit] : List Value).set k u) := by
  unfold xRow
  rw [List.set_append_right _ _ (by simp; omega), List.set_append_right _ _ (by simp; omega)]
  congr 3
  simp [hn]; omega
theorem XM.set_pc (h : XM w c pg fx ps S inp out) (v : Int) (h0 : 0 ≤ v) (h1 : v < 4294967296) : XDid w (w.setCell ⟨c, 5, none⟩ (.int .u32 v)) c pg fx ps S ps { S with pc := v } inp out :=
  h.set 5 _ (xrow_pc v) h.nreg h.regIn ⟨h0, h1⟩ rfl rfl rfl
theorem XM.set_reg (h : XM w c pg fx ps S inp out) (a : Nat) (ha : a < 16) (v : Int) (h0 : 0 ≤ v) (h1 : v < 4294967296) : XDid w (w.setCell ⟨c, 6 + a, none⟩ (.int .u32 v)) c pg fx ps S ps { S with regs := S.regs.set a v } inp out :=
  h.set (6 + a) _ (xrow_reg h.nreg a ha v) (by simp [h.nreg]) (fun x hx => (List.mem_or_eq_of_mem_set hx).elim (h.regIn x) (fun e => e ▸ ⟨h0, h1⟩)) h.pcIn rfl rfl rfl
theorem XM.set_steps (h : XM w c pg fx ps S inp out) (v : Int) : XDid w (w.setCell ⟨c, 22, none⟩ (.int .i64 v)) c pg fx ps S ps { S with steps := v } inp out :=
  h.set 22 _ ((xrow_tail h.nreg 0 (by omega) _).trans rfl) h.nreg h.regIn h.pcIn rfl rfl rfl
theorem XM.set_ended (h : XM w c pg fx ps S inp out) (v : Int) : XDid w (w.setCell ⟨c, 24, none⟩ (.int .i64 v)) c pg fx ps S ps { S with ended := v } inp out :=
  h.set 24 _ ((xrow_tail h.nreg 2 (by omega) _).trans rfl) h.nreg h.regIn h.pcIn rfl rfl rfl
theorem XM.set_exit (h : XM w c pg fx ps S inp out) (v : Int) : XDid w (w.setCell ⟨c, 25, none⟩ (.int .i64 v)) c pg fx ps S ps { S with exit := v } inp out :=
  h.set 25 _ ((xrow_tail h.nreg 3 (by omega) _).trans rfl) h.nreg h.regIn h.pcIn rfl rfl rfl
theorem XM.newpage (h : XM w c pg fx ps S inp out) (k : Nat) (hk : ps[k]? = some none) :
    XDid w ((w.alloc (.cells (byteRow zpage) 5)).setCell ⟨pg, k, none⟩ (.slice (some ⟨w.heap.size, 0, none⟩) 4096 4096)) c pg fx ps S (ps.set k (some (w.heap.size, zpage))) S inp out := by
  have hnd := h.nodup
  have hlt := h.foot_lt
  have xE : Ext (fun i => i = pg) w ((w.alloc (.cells (byteRow zpage) 5)).setCell ⟨pg, k, none⟩ (.slice (some ⟨w.heap.size, 0, none⟩) 4096 4096)) :=
    Ext.setCell (F := fun i => i = pg) (p := ⟨pg, k, none⟩) (Ext.of_below (below_alloc (Below.refl _ _) _)) (Or.inl rfl) _
  have hpg : pg < w.heap.size := lt_of_at h.pages
  have hnp : ∀ i ∈ c :: (blocks ps ++ S.outV.ownBlock.toList), ¬ i = pg := by
    intro i hi e
    subst e
    unfold foot at hnd
    rw [List.nodup_cons] at hnd
    rcases List.mem_cons.1 hi with e | e
    · exact hnd.1 (e ▸ List.mem_cons_self)
    · exact (List.nodup_cons.1 hnd.2).1 e
  have hperm : (foot c pg (ps.set k (some (w.heap.size, zpage))) S).Perm (w.heap.size :: foot c pg ps S) := by
    unfold foot
    have h1 := (blocks_set ps k w.heap.size zpage hk).append_right S.outV.ownBlock.toList
    exact ((h1.cons pg).cons c).trans ((List.Perm.cons c (List.Perm.swap _ _ _)).trans (List.Perm.swap _ _ _))
  refine ⟨⟨xE.at h.head (hnp c (by simp)), h.nreg, h.regIn, h.pcIn, h.codeIn, ?_, by simp [h.npg], ?_, ?_, ?_, ?_⟩, xE.mono (fun i hi => by subst hi; simp [foot]), fun i hi => ?_⟩
  · refine blk_put (blk_alloc h.pages _) k _ ?_
    apply Array.ext'
    simp [List.map_set, pgVal]
  · intro g bs hm
    rcases List.mem_or_eq_of_mem_set hm with hm | hm
    · obtain ⟨h1, h2⟩ := h.page g bs hm
      refine ⟨xE.at h1 (hnp g ?_), h2⟩
      simp only [List.mem_cons, List.mem_append, blocks, List.mem_filterMap]
      exact .inr (.inl ⟨_, hm, rfl⟩)
    · simp only [Option.some.injEq, Prod.mk.injEq] at hm
      obtain ⟨rfl, rfl⟩ := hm
      refine ⟨blk_far (heap_at _ _ _ rfl) (by simp; omega) _, by rw [zpage, List.length_replicate], ?_⟩
      intro b hb
      have := List.eq_of_mem_replicate hb
      omega
  · refine hperm.nodup_iff.2 (List.nodup_cons.2 ⟨fun hi => absurd (hlt _ hi) (by omega), hnd⟩)
  · obtain ⟨A, cap, e1, hl, hC, hA⟩ := h.inS
    refine ⟨A, cap, e1, hl, ?_, fun ad ha h0 => ⟨fun hi => ?_, Nat.lt_of_lt_of_le (hA ad ha h0).2 xE.size⟩⟩
    · refine ⟨hC.1, hC.2.1, fun h0 => ?_⟩
      obtain ⟨ad, ha, hx⟩ := hC.2.2 h0
      refine ⟨ad, ha, fun j p hj => ?_⟩
      obtain ⟨cs, h1, h2, h3⟩ := hx j p hj
      refine ⟨cs, h1, h2, fun q v hq => ?_⟩
      have hb := xE.block ad.block (hA ad ha h0).2 (fun e2 => (hA ad ha h0).1 (by rw [e2]; simp [foot]))
      have := h3 q v hq
      have hbl : (ad.add (j * (Kd.int .u8).sz + q)).block = ad.block := by unfold Addr.add; split <;> rfl
      unfold World.cell? at this ⊢
      rw [hbl] at this ⊢
      rw [hb]; exact this
    · rcases List.mem_cons.1 (hperm.mem_iff.1 hi) with e | e
      · have := (hA ad ha h0).2; omega
      · exact (hA ad ha h0).1 e
  · obtain ⟨base, hR⟩ := h.outS
    refine ⟨base, Kd.R_mono (Kd.R_step (Kd.R_tight rfl hR) (fun j hj hlt => xE.block j hlt (hnp j ?_))) (fun _ _ => trivial)⟩
    simp only [List.mem_cons, List.mem_append]
    exact .inr (.inr (by simp [← hj]))
  · rcases List.mem_cons.1 (hperm.mem_iff.1 hi) with e | e
    · exact .inr (by omega)
    · exact .inl e
theorem XM.pgcell (h : XM w c pg fx ps S inp out) (k : Nat) : w.cell? ⟨pg, k, none⟩ = (ps[k]?).map pgVal := by rw [blk_cell h.pages, List.getElem?_toArray, List.getElem?_map]
theorem XM.setbyte (h : XM w c pg fx ps S inp out) {k g : Nat} {bs : List Int} (hk : ps[k]? = some (some (g, bs))) (o : Nat) (ho : o < 4096) (b : Int) (hb : 0 ≤ b ∧ b < 256) :
    XDid w (w.setCell ⟨g, o, none⟩ (.int .u8 b)) c pg fx ps S (ps.set k (some (g, bs.set o b))) S inp out := by
  have hnd := h.nodup
  have hgb : g ∈ blocks ps := by unfold blocks; rw [List.mem_filterMap]; exact ⟨_, List.mem_of_getElem? hk, rfl⟩
  have hgf : g ∈ foot c pg ps S := by simp only [foot, List.mem_cons, List.mem_append]; exact .inr (.inr (.inl hgb))
  have xE : Ext (fun i => i = g) w (w.setCell ⟨g, o, none⟩ (.int .u8 b)) := Ext.setCell (F := fun i => i = g) (p := ⟨g, o, none⟩) (Ext.refl _ _) (Or.inl rfl) _
  have hf : foot c pg (ps.set k (some (g, bs.set o b))) S = foot c pg ps S := by unfold foot; rw [blocks_same hk]
  have hn1 := hnd
  unfold foot at hn1
  obtain ⟨a1, hn2⟩ := List.nodup_cons.1 hn1
  obtain ⟨a2, hn3⟩ := List.nodup_cons.1 hn2
  obtain ⟨a3, a4, a5⟩ := List.nodup_append.1 hn3
  obtain ⟨hg, hlen, hbs⟩ := h.page g bs (List.mem_of_getElem? hk)
  refine ⟨⟨xE.at h.head (fun e => a1 (e ▸ by simp [hgb])), h.nreg, h.regIn, h.pcIn, h.codeIn, ?_, by simp [h.npg], ?_, by rw [hf]; exact hnd, ?_, ?_⟩, xE.mono (fun i hi => by subst hi; exact hgf), fun i hi => .inl (by rw [hf] at hi; exact hi)⟩
  · rw [map_same pgVal ps k _ (some (g, bs.set o b)) hk rfl]
    exact xE.at h.pages (fun e => a2 (e ▸ by simp [hgb]))
  · intro g' bs' hm
    obtain ⟨i, hi⟩ := List.getElem?_of_mem hm
    by_cases e : k = i
    · subst e
      rw [List.getElem?_set_self (List.getElem?_eq_some_iff.1 hk).1] at hi
      simp only [Option.some.injEq, Prod.mk.injEq] at hi
      obtain ⟨rfl, rfl⟩ := hi
      refine ⟨blk_put hg o _ ?_, by simp [hlen], fun x hx => ?_⟩
      · apply Array.ext'
        simp [byteRow, List.map_set]
      · exact (List.mem_or_eq_of_mem_set hx).elim (hbs x) (fun e => e ▸ hb)
    · rw [List.getElem?_set_ne e] at hi
      have hne : g' ≠ g := fun e2 => e (blocks_inj ps a3 k i g bs bs' hk (e2 ▸ hi))
      obtain ⟨h1, h2⟩ := h.page g' bs' (List.mem_of_getElem? hi)
      exact ⟨xE.at h1 hne, h2⟩
  · obtain ⟨A, cap, e1, hl, hC, hA⟩ := h.inS
    refine ⟨A, cap, e1, hl, ?_, fun ad ha h0 => ⟨by rw [hf]; exact (hA ad ha h0).1, Nat.lt_of_lt_of_le (hA ad ha h0).2 xE.size⟩⟩
    refine ⟨hC.1, hC.2.1, fun h0 => ?_⟩
    obtain ⟨ad, ha, hx⟩ := hC.2.2 h0
    refine ⟨ad, ha, fun j p hj => ?_⟩
    obtain ⟨cs, h1, h2, h3⟩ := hx j p hj
    refine ⟨cs, h1, h2, fun q v hq => ?_⟩
    have hb := xE.block ad.block (hA ad ha h0).2 (fun e2 => (hA ad ha h0).1 (by rw [e2]; exact hgf))
    have := h3 q v hq
    have hbl : (ad.add (j * (Kd.int .u8).sz + q)).block = ad.block := by unfold Addr.add; split <;> rfl
    unfold World.cell? at this ⊢
    rw [hbl] at this ⊢
    rw [hb]; exact this
  · obtain ⟨base, hR⟩ := h.outS
    refine ⟨base, Kd.R_mono (Kd.R_step (Kd.R_tight rfl hR) (fun j hj hlt => xE.block j hlt (fun e2 => a5 g hgb j (by simp [← hj]) e2.symm))) (fun _ _ => trivial)⟩
/-- The machine's row of what was put out is turned: all else of it stands. -/
theorem XM.grown (h : XM w c pg fx ps S inp out) {base : Nat} {v1 : Value} {out1 : List Int} (hg : w.grownBy w' S.outV.ownBlock) (hR : Kd.R (Kd.int .u8) 5 w' base (fun _ => True) v1 out1) (hat : v1.ownBlock = S.outV.ownBlock ∨ ∃ b, v1.ownBlock = some b ∧ w.heap.size ≤ b) :
    XDid w (w'.setCell ⟨c, 23, none⟩ v1) c pg fx ps S ps { S with outV := v1 } inp out1 := by
  have hnd := h.nodup
  have xE := grown_ext hg
  have hn1 := hnd
  unfold foot at hn1
  obtain ⟨a1, hn2⟩ := List.nodup_cons.1 hn1
  obtain ⟨a2, hn3⟩ := List.nodup_cons.1 hn2
  obtain ⟨a3, a4, a5⟩ := List.nodup_append.1 hn3
  have hco : ¬ S.outV.ownBlock = some c := fun e => a1 (by simp [e])
  have hpo : ¬ S.outV.ownBlock = some pg := fun e => a2 (by simp [e])
  have hlt := h.foot_lt
  have xF : Ext (fun i => S.outV.ownBlock = some i ∨ i = c) w (w'.setCell ⟨c, 23, none⟩ v1) := Ext.setCell (F := fun i => S.outV.ownBlock = some i ∨ i = c) (p := ⟨c, 23, none⟩) (xE.mono (fun i hi => Or.inl hi)) (Or.inl (Or.inr rfl)) v1
  have hv1c : ¬ v1.ownBlock = some c := by
    intro e
    rcases hat with h1 | ⟨b, h1, h2⟩
    · exact hco (h1 ▸ e)
    · rw [e] at h1; injection h1 with h1; have := lt_of_at h.head; omega
  have hnew : ∀ i, v1.ownBlock = some i → S.outV.ownBlock = some i ∨ w.heap.size ≤ i := by
    intro i e
    rcases hat with h1 | ⟨b, h1, h2⟩
    · exact .inl (h1 ▸ e)
    · rw [e] at h1; injection h1 with h1; exact .inr (by omega)
  refine ⟨⟨?_, h.nreg, h.regIn, h.pcIn, h.codeIn, xF.at h.pages (fun e => e.elim hpo (fun e => a1 (by simp [← e]))), h.npg, ?_, ?_, ?_, ?_⟩, xF.mono (fun i hi => by rcases hi with hi | rfl <;> simp [foot, *]), ?_⟩
  · have hh := xE.at h.head hco
    refine blk_put hh 23 v1 ?_
    obtain ⟨r0, r1, r2, r3, r4, r5, r6, r7, r8, r9, r10, r11, r12, r13, r14, r15, e⟩ := regs16 h.nreg
    simp [xRow, e]
  · intro g bs hm
    obtain ⟨h1, h2⟩ := h.page g bs hm
    have hgb : g ∈ blocks ps := by unfold blocks; rw [List.mem_filterMap]; exact ⟨_, hm, rfl⟩
    refine ⟨xF.at h1 (fun e => e.elim (fun e => a5 g hgb g (by simp [e]) rfl) (fun e => a1 (by simp [← e, hgb]))), h2⟩
  · unfold foot
    refine List.nodup_cons.2 ⟨?_, List.nodup_cons.2 ⟨?_, List.nodup_append.2 ⟨a3, ?_, ?_⟩⟩⟩
    · intro hm
      simp only [List.mem_cons, List.mem_append, Option.mem_toList, Option.mem_def] at hm
      rcases hm with hm | hm | hm
      · exact a1 (by simp [hm])
      · exact a1 (by simp [hm])
      · exact hv1c hm
    · intro hm
      simp only [List.mem_append, Option.mem_toList, Option.mem_def] at hm
      rcases hm with hm | hm
      · exact a2 (by simp [hm])
      · exact (hnew pg hm).elim hpo (fun h' => absurd (lt_of_at h.pages) (by omega))
    · cases v1.ownBlock <;> simp
    · intro x hx y hy e
      subst e
      simp only [Option.mem_toList, Option.mem_def] at hy
      exact (hnew x hy).elim (fun h' => a5 x hx x (by simp [h']) rfl) (fun h' => absurd (hlt x (by simp [foot, hx])) (by omega))
  · obtain ⟨A, cap, e1, hl, hC, hA⟩ := h.inS
    refine ⟨A, cap, e1, hl, ?_, fun ad ha h0 => ⟨fun hm => ?_, Nat.lt_of_lt_of_le (hA ad ha h0).2 xF.size⟩⟩
    · refine ⟨hC.1, hC.2.1, fun h0 => ?_⟩
      obtain ⟨ad, ha, hx⟩ := hC.2.2 h0
      refine ⟨ad, ha, fun j p hj => ?_⟩
      obtain ⟨cs, h1, h2, h3⟩ := hx j p hj
      refine ⟨cs, h1, h2, fun q v hq => ?_⟩
      have hb := xF.block ad.block (hA ad ha h0).2 (fun e2 => (hA ad ha h0).1 (by rcases e2 with e2 | e2 <;> simp [foot, e2]))
      have := h3 q v hq
      have hbl : (ad.add (j * (Kd.int .u8).sz + q)).block = ad.block := by unfold Addr.add; split <;> rfl
      unfold World.cell? at this ⊢
      rw [hbl] at this ⊢
      rw [hb]; exact this
    · simp only [foot, List.mem_cons, List.mem_append, Option.mem_toList, Option.mem_def] at hm
      rcases hm with hm | hm | hm | hm
      · exact (hA ad ha h0).1 (by simp [foot, hm])
      · exact (hA ad ha h0).1 (by simp [foot, hm])
      · exact (hA ad ha h0).1 (by simp [foot, hm])
      · exact (hnew _ hm).elim (fun h' => (hA ad ha h0).1 (by simp [foot, h'])) (fun h' => absurd (hA ad ha h0).2 (by omega))
  · refine ⟨base, Kd.R_mono (Kd.R_step (Kd.R_tight rfl hR) (fun j hj hlt => Below.heap_setCell w' _ v1 j (fun e => hv1c (by have e2 : j = c := e; rw [← e2]; exact hj.symm)))) (fun _ _ => trivial)⟩
  · intro i hi
    simp only [foot, List.mem_cons, List.mem_append, Option.mem_toList, Option.mem_def] at hi
    rcases hi with hi | hi | hi | hi
    · exact .inl (by simp [foot, hi])
    · exact .inl (by simp [foot, hi])
    · exact .inl (by simp [foot, hi])
    · exact (hnew _ hi).imp (fun h' => by simp [foot, h']) id
set_option maxRecDepth 100000 in
/-- The first byte of the input is taken. -/
theorem XM.take_in {b : Int} {rest : List Int} (h : XM w c pg fx ps S (b :: rest) out) : ∃ ad cap A', S.inV = .slice (some ad) (rest.length + 1) cap ∧ w.cell? ad = some (.int .u8 b) ∧ (∀ W : World, (Instr.slice 23 (.slice (some ad) (rest.length + 1) cap) (some (.int .i64 1)) none none).run Try.prog W = .ok (.slice A' rest.length (cap - 1)) W) ∧
    XDid w (w.setCell ⟨c, 3, none⟩ (.slice A' rest.length (cap - 1))) c pg fx ps S ps { S with inV := .slice A' rest.length (cap - 1) } rest out := by
  obtain ⟨A, cap, e1, hl, hC, hA⟩ := h.inS
  have hR := Kd.reads_of_C (enc := Value.int .u8) (d := (0 : Int)) (h1 := fun _ => rfl) hC
  obtain ⟨ad, rfl, hc⟩ := hR.2.2 (by simp)
  obtain ⟨i, hi, hz, hs, hb⟩ := info5
  have hel : Try.prog.elem 23 = 5 := by simp [Program.elem, Try.underlying23]
  have hu : Try.prog.underlying 23 = some (.slice (Try.prog.elem 23)) := by rw [hel]; exact Try.underlying23
  have hl2 : rest.length + 1 ≤ cap := by simpa using hl
  have hRI : ReadsInt w .u8 (some ad) (rest.length + 1) (b :: rest) := hR
  have hdr := hRI.drop_ 1 (by omega) hl2
  obtain ⟨A', hA'⟩ : ∃ q, q = (if cap = 1 then some ad else (some ad).map (·.add 1)) := ⟨_, rfl⟩
  have hblk : ∀ a', A' = some a' → a'.block = ad.block := by
    intro a' e
    rw [hA'] at e
    split at e
    · injection e with e; rw [e]
    · simp only [Option.map_some, Option.some.injEq] at e; rw [← e]; exact add_block ad 1
  refine ⟨ad, cap, A', e1, ?_, fun W => ?_, ?_⟩
  · have := hc 0 (by simp)
    rw [show ad.add 0 = ad by simp [Addr.add]] at this
    exact this
  · rw [run_slice_l W 23 (some ad) (rest.length + 1) cap hu .i64 1 (by decide) (by omega), hel, hA']
    simp [sizeOf, typeInfo, hi, hs, sliced, Result.andThen]
  · have hnd := h.nodup
    have xE : Ext (fun k => k = c) w (w.setCell ⟨c, 3, none⟩ (.slice A' rest.length (cap - 1))) := Ext.setCell (F := fun k => k = c) (p := ⟨c, 3, none⟩) (Ext.refl _ _) (Or.inl rfl) _
    have hnc : ∀ k ∈ pg :: (blocks ps ++ S.outV.ownBlock.toList), ¬ k = c := by
      intro k hk e
      unfold foot at hnd
      exact (List.nodup_cons.1 hnd).1 (e ▸ hk)
    refine ⟨⟨?_, h.nreg, h.regIn, h.pcIn, h.codeIn, xE.at h.pages (hnc pg (by simp)), h.npg, ?_, hnd, ?_, ?_⟩, xE.mono (fun k hk => by subst hk; simp [foot]), fun k hk => .inl hk⟩
    · refine blk_put h.head 3 _ ?_
      obtain ⟨r0, r1, r2, r3, r4, r5, r6, r7, r8, r9, r10, r11, r12, r13, r14, r15, e⟩ := regs16 h.nreg
      simp [xRow, e]
    · intro g bs hm
      obtain ⟨h1, h2⟩ := h.page g bs hm
      refine ⟨xE.at h1 (hnc g ?_), h2⟩
      simp only [List.mem_cons, List.mem_append, blocks, List.mem_filterMap]
      exact .inr (.inl ⟨_, hm, rfl⟩)
    · refine ⟨A', cap - 1, rfl, by omega, ?_, fun a' e _ => ⟨by rw [hblk a' e]; exact (hA ad rfl (by simp)).1, Nat.lt_of_lt_of_le (by rw [hblk a' e]; exact (hA ad rfl (by simp)).2) xE.size⟩⟩
      have hd2 : ReadsInt w .u8 A' rest.length rest := by rw [hA']; simpa using hdr
      refine Kd.C_of_reads (enc := Value.int .u8) (d := (0 : Int)) (h1 := fun _ => rfl) ?_
      refine ⟨hd2.1, hd2.2.1, fun h0 => ?_⟩
      obtain ⟨a', e, hx⟩ := hd2.2.2 h0
      refine ⟨a', e, fun j hj => ?_⟩
      rw [cell_far (by rw [add_block, hblk a' e]; exact fun e2 => (hA ad rfl (by simp)).1 (by rw [e2]; simp [foot]))]
      exact hx j hj
    · obtain ⟨base, hR⟩ := h.outS
      exact ⟨base, Kd.R_mono (Kd.R_step (Kd.R_tight rfl hR) (fun j hj hlt => xE.block j hlt (hnc j (by simp [← hj])))) (fun _ _ => trivial)⟩
end Go.Proofs.Ytejhnlljddjicaa.Ma
namespace Go.Proofs.Ytejhnlljddjicaa.Ma
open Go.RowKit Go.Proofs.Ytejhnlljddjicaa.PLk Go.Proofs.YtejhnlljddjicaaW.PrintWords Go.Proofs.YtejhnlljddjicaaW.PrintLast Go.Proofs.YtejhnlljddjicaaW.PrintMore Go.Proofs.Ytejhnlljddjicaa.La
set_option linter.unusedVariables false
set_option linter.unusedSimpArgs false
variable {fx : Value × Int} {w w' : World} {c pg : Nat} {ps ps' : Pages} {S S' : Cpu} {inp out inp' out' : List Int}
theorem byte_row {g i : Nat} {bs : List Int} (hg : w.heap[g]? = some (.cells (byteRow bs) 5 (0, 0))) (hi : i < bs.length) : w.cell? ⟨g, i, none⟩ = some (.int .u8 ((bs[i]?).getD 0)) := by
  rw [blk_cell hg]
  simp [byteRow, hi]
set_option maxHeartbeats 4000000 in
set_option maxRecDepth 100000 in
theorem xend_calls (h : XM w c pg fx ps S inp out) (a b : Int) : Calls Try.prog 58 #[.pointer (some ⟨c, 0, none⟩), .int .i64 a, .int .i64 b] w fun e w' => e = .returned (.tuple #[]) ∧ XDid w w' c pg fx ps S ps { S with ended := a, exit := b } inp out := by
  have f24 := h.fz 24
  have f25 := h.fz 25
  have k24 := h.kend
  have k25 := h.kex
  have D1 := h.set_ended a
  have D := Aside0.mk (D1.trans (D1.em.set_exit b))
  clear D1 h
  go_enter Try.func58, Try.ntmps58
  go_wp2
  go_end0
  exact ⟨rfl, D.out⟩
set_option maxHeartbeats 4000000 in
set_option maxRecDepth 100000 in
theorem xtrap_calls (h : XM w c pg fx ps S inp out) (n : Int) : Calls Try.prog 49 #[.pointer (some ⟨c, 0, none⟩), .int .i64 n] w fun e w' => e = .returned (.tuple #[]) ∧ XDid w w' c pg fx ps S ps { S with ended := 6, exit := n } inp out := by
  have H := Aside0.mk h
  clear h
  go_enter Try.func49, Try.ntmps49
  go_wp2_with (first | (go_at_call 58; refine (xend_calls H.out 6 n).mono ?_; rintro e w' ⟨rfl, hd⟩; have D := Aside0.mk hd; clear hd))
  go_end0
  exact ⟨rfl, D.out⟩
/-- What an access that may not be makes of a machine. -/
def mayS (S : Cpu) (n : Int) : Cpu := if n = 0 then S else { S with ended := 6, exit := n }
set_option maxHeartbeats 4000000 in
set_option maxRecDepth 100000 in
theorem xmay_calls (h : XM w c pg fx ps S inp out) (i n : Int) (wr : Bool) (hi : 0 ≤ i ∧ i < 4294967296) (hn : n = 1 ∨ n = 2 ∨ n = 4) : Calls Try.prog 60 #[.pointer (some ⟨c, 0, none⟩), .int .u32 i, .int .i64 n, .bool wr] w fun e w' => e = .returned (.bool (decide (mayF S.code i n wr = 0))) ∧ XDid w w' c pg fx ps S ps (mayS S (mayF S.code i n wr)) inp out := by
  have c1 := h.k1
  obtain ⟨k0, k1⟩ := h.codeIn
  obtain ⟨hi0, hi1⟩ := hi
  have H := Aside0.mk h
  clear h
  have hm : Int.tmod i n = i % n := Int.tmod_eq_emod_of_nonneg hi0
  by_cases a1 : i % n = 0
  · by_cases a2 : i < 4096 ∨ 8388608 - n < i ∨ (wr = true ∧ i < 4096 + S.code)
    · have e : mayF S.code i n wr = 2 := by unfold mayF; rw [if_neg (by omega), if_pos a2]
      rw [e]
      generalize hco : S.code = code at *
      rcases hn with rfl | rfl | rfl <;> cases wr
      all_goals (go_enter Try.func60, Try.ntmps60)
      all_goals (go_wp2_with (first | (go_at_call 49; refine (xtrap_calls H.out 2).mono ?_; rintro e w' ⟨rfl, hd⟩; have D := Aside0.mk hd; clear hd)))
      all_goals first | (go_ret; exact ⟨rfl, D.out⟩) | (exfalso; simp at *; omega)
    · have e : mayF S.code i n wr = 0 := by unfold mayF; rw [if_neg (by omega), if_neg a2]
      rw [e]
      generalize hco : S.code = code at *
      rcases hn with rfl | rfl | rfl <;> cases wr
      all_goals (go_enter Try.func60, Try.ntmps60)
      all_goals (go_wp2_with (fail))
      all_goals first | (go_ret; exact ⟨rfl, XDid.same H.out (Below.refl _ _)⟩) | (exfalso; simp at *; omega)
  · have e : mayF S.code i n wr = 1 := by unfold mayF; rw [if_pos a1]
    rw [e]
    rcases hn with rfl | rfl | rfl
    · exact absurd (by omega) a1
    all_goals (go_enter Try.func60, Try.ntmps60)
    all_goals (go_wp2_with (first | (go_at_call 49; refine (xtrap_calls H.out 1).mono ?_; rintro e w' ⟨rfl, hd⟩; have D := Aside0.mk hd; clear hd)))
    all_goals first | (go_ret; exact ⟨rfl, D.out⟩) | (exfalso; simp at *; omega)
set_option maxHeartbeats 4000000 in
set_option maxRecDepth 100000 in
theorem xbyteAt_calls (h : XM w c pg fx ps S inp out) (a : Int) (h0 : 0 ≤ a) (h1 : a < 8388608) : Calls Try.prog 50 #[.pointer (some ⟨c, 0, none⟩), .int .i64 a] w fun e w' => e = .returned (.int .u8 (byteAt ps a.toNat)) ∧ w' = w := by
  have c0 := h.kpg
  have c1 := h.pgcell (a / 4096).toNat
  have hb0 : 0 ≤ a / 4096 := by omega
  have hb1 : a / 4096 < 2048 := by omega
  have hm0 : 0 ≤ a % 4096 := by omega
  have hm1 : a % 4096 < 4096 := by omega
  have hkn : (a / 4096).toNat = a.toNat / 4096 := by omega
  have hmn : (a % 4096).toNat = a.toNat % 4096 := by omega
  have hl : (a / 4096).toNat < ps.length := by rw [h.npg]; omega
  have hq : Int.tdiv a 4096 = a / 4096 := Int.tdiv_eq_ediv_of_nonneg h0
  have hr : Int.tmod a 4096 = a % 4096 := Int.tmod_eq_emod_of_nonneg h0
  cases hk : ps[(a / 4096).toNat]? with
  | none => rw [List.getElem?_eq_none_iff] at hk; omega
  | some p =>
    rw [hk] at c1
    simp only [Option.map_some] at c1
    cases p with
    | none =>
      have hw : byteAt ps a.toNat = 0 := byte_out (by rw [← hkn]; exact hk)
      rw [hw]
      simp only [pgVal] at c1
      clear h hk hl hw hkn hmn
      go_enter Try.func50, Try.ntmps50
      go_wp2
      go_ret
      exact ⟨rfl, rfl⟩
    | some q =>
      obtain ⟨g, bs⟩ := q
      simp only [pgVal] at c1
      obtain ⟨hg, hlen, _⟩ := h.page g bs (List.mem_of_getElem? hk)
      have c2 : w.cell? ⟨g, (a % 4096).toNat, none⟩ = some (.int .u8 (byteAt ps a.toNat)) := by
        rw [blk_cell hg, byte_in (by rw [← hkn]; exact hk), ← hmn]
        have : (a % 4096).toNat < bs.length := by omega
        simp [byteRow, this]
      clear h hk hl hkn hmn hg hlen
      generalize byteAt ps a.toNat = v at c2 ⊢
      go_enter Try.func50, Try.ntmps50
      go_wp2
      go_ret
      exact ⟨rfl, rfl⟩
set_option maxHeartbeats 4000000 in
set_option maxRecDepth 100000 in
theorem xjump_calls (h : XM w c pg fx ps S inp out) (n : Int) (hn : -8388608 ≤ n ∧ n ≤ 16777216) : Calls Try.prog 62 #[.pointer (some ⟨c, 0, none⟩), .int .i64 n] w fun e w' => e = .returned (.tuple #[]) ∧ XDid w w' c pg fx ps S ps { S with pc := jumpF S.pc n } inp out := by
  have c5 := h.kpc
  have f5 := h.fz 5
  have hp := h.pcIn
  obtain ⟨n0, n1⟩ := hn
  have D := Aside0.mk (h.set_pc (jumpF S.pc n) (by unfold jumpF; omega) (by unfold jumpF; omega))
  clear h
  unfold jumpF at D ⊢
  generalize S.pc = p at *
  go_enter Try.func62, Try.ntmps62
  go_wp2
  go_end0
  have D2 := D.out
  rw [show (p + 4 * n % 4294967296) % 4294967296 = (p + 4 * n) % 4294967296 by omega] at D2 ⊢
  exact ⟨rfl, D2⟩
set_option maxHeartbeats 4000000 in
set_option maxRecDepth 100000 in
theorem xset_there (h : XM w c pg fx ps S inp out) (a : Int) (h0 : 0 ≤ a) (h1 : a < 8388608) (b : Int) (hb : 0 ≤ b ∧ b < 256) {g : Nat} {bs : List Int} (hk : ps[(a / 4096).toNat]? = some (some (g, bs))) : Calls Try.prog 61 #[.pointer (some ⟨c, 0, none⟩), .int .i64 a, .int .u8 b] w fun e w' => e = .returned (.tuple #[]) ∧ XDid w w' c pg fx ps S (ps.set (a / 4096).toNat (some (g, bs.set (a % 4096).toNat b))) S inp out := by
  have c0 := h.kpg
  have c1 := h.pgcell (a / 4096).toNat
  rw [hk] at c1
  simp only [Option.map_some, pgVal] at c1
  have hb0 : 0 ≤ a / 4096 := by omega
  have hb1 : a / 4096 < 2048 := by omega
  have hm0 : 0 ≤ a % 4096 := by omega
  have hm1 : a % 4096 < 4096 := by omega
  have hq : Int.tdiv a 4096 = a / 4096 := Int.tdiv_eq_ediv_of_nonneg h0
  have hr : Int.tmod a 4096 = a % 4096 := Int.tmod_eq_emod_of_nonneg h0
  obtain ⟨hg, hlen, _⟩ := h.page g bs (List.mem_of_getElem? hk)
  have fz := blk_frozen hg (a % 4096).toNat
  have c2 : w.cell? ⟨g, (a % 4096).toNat, none⟩ = some (.int .u8 ((bs[(a % 4096).toNat]?).getD 0)) := by
    rw [blk_cell hg]
    have : (a % 4096).toNat < bs.length := by omega
    simp [byteRow, this]
  have D := Aside0.mk (h.setbyte hk (a % 4096).toNat (by omega) b hb)
  clear h hk hg hlen
  generalize (bs[(a % 4096).toNat]?).getD 0 = old at c2
  go_enter Try.func61, Try.ntmps61
  go_wp2
  go_end0
  exact ⟨rfl, D.out⟩
set_option maxHeartbeats 4000000 in
set_option maxRecDepth 100000 in
theorem xset_laid (h : XM w c pg fx ps S inp out) (a : Int) (h0 : 0 ≤ a) (h1 : a < 8388608) (b : Int) (hb : 0 ≤ b ∧ b < 256) (hk : ps[(a / 4096).toNat]? = some none) : Calls Try.prog 61 #[.pointer (some ⟨c, 0, none⟩), .int .i64 a, .int .u8 b] w fun e w' => e = .returned (.tuple #[]) ∧ XDid w w' c pg fx ps S (ps.set (a / 4096).toNat (some (w.heap.size, zpage.set (a % 4096).toNat b))) S inp out := by
  have c0 := h.kpg
  have c1 := h.pgcell (a / 4096).toNat
  rw [hk] at c1
  simp only [Option.map_some, pgVal] at c1
  have hb0 : 0 ≤ a / 4096 := by omega
  have hb1 : a / 4096 < 2048 := by omega
  have hm0 : 0 ≤ a % 4096 := by omega
  have hm1 : a % 4096 < 4096 := by omega
  have hq : Int.tdiv a 4096 = a / 4096 := Int.tdiv_eq_ediv_of_nonneg h0
  have hr : Int.tmod a 4096 = a % 4096 := Int.tmod_eq_emod_of_nonneg h0
  have BD : Below w.heap.size w w.drew := (Below.refl _ _).drew
  have hD := h.below BD
  have hmk : ∀ W, (Instr.makeSlice 23 (.int .i64 4096) (.int .i64 4096)).run Try.prog W = .ok (.slice (some ⟨W.heap.size, 0, none⟩) 4096 4096) (W.alloc (.cells (byteRow zpage) 5)) := fun W => run_make5 4096 (by decide) (by decide) W
  have BA := below_alloc (Below.refl w.drew.heap.size w.drew) (.cells (byteRow zpage) 5)
  have d0 := hD.kpg
  have d1 := hD.pgcell (a / 4096).toNat
  rw [hk] at d1
  simp only [Option.map_some, pgVal] at d1
  have a0 := pw_cell_below BA d0
  have a1 := pw_cell_below BA d1
  have fz := blk_frozen (blk_alloc hD.pages (.cells (byteRow zpage) 5)) (a / 4096).toNat
  have hl : (a / 4096).toNat < ps.length := by rw [h.npg]; omega
  have D1 := Aside0.mk (XDid.pre BD (hD.newpage _ hk))
  have HH := Aside0.mk (show (ps.set (a / 4096).toNat (some (w.drew.heap.size, zpage)))[(a / 4096).toNat]? = some (some (w.drew.heap.size, zpage)) from List.getElem?_set_self hl)
  have HB := Aside0.mk hb
  have hw : IntKind.i64.wrap (a / 4096) = a / 4096 := IntWalk.i64_in _ (by omega)
  have hx : w.drew.alloc (.cells (byteRow zpage) 5) = (w.alloc (.cells (byteRow zpage) 5)).drew := rfl
  have hy : w.drew.heap.size = w.heap.size := rfl
  rw [hx] at a0 a1 fz D1
  rw [hy] at D1 HH
  clear h hk BA hl hD BD hx hy d0 d1
  go_enter Try.func61, Try.ntmps61
  go_upto_region 1 with (fail)
  go_wp2_with (fail)
  go_region_law (fail)
  all_goals (
    have D2 : Aside0 (XDid w (((w.alloc (.cells (byteRow zpage) 5)).setCell ⟨pg, (a / 4096).toNat, none⟩ (.slice (some ⟨w.heap.size, 0, none⟩) 4096 4096)).drew) c pg fx ps S (ps.set (a / 4096).toNat (some (w.heap.size, zpage))) S inp out) := ⟨D1.out⟩
    clear a0 a1 fz D1 c0 c1 hw
    generalize (((w.alloc (.cells (byteRow zpage) 5)).setCell ⟨pg, (a / 4096).toNat, none⟩ (.slice (some ⟨w.heap.size, 0, none⟩) 4096 4096)).drew) = W1 at D2 ⊢
    obtain ⟨ps1, hps1⟩ : ∃ x, ps.set (a / 4096).toNat (some (w.heap.size, zpage)) = x := ⟨_, rfl⟩
    have HP := Aside0.mk hps1
    rw [hps1] at D2 HH
    clear hps1
    generalize hgs : w.heap.size = g at D2 HH HP ⊢
    have c0 := D2.out.em.kpg
    have c1 := D2.out.em.pgcell (a / 4096).toNat
    rw [HH.out] at c1
    simp only [Option.map_some, pgVal] at c1
    obtain ⟨hg, hlen, _⟩ := D2.out.em.page g zpage (List.mem_of_getElem? HH.out)
    have fz := blk_frozen hg (a % 4096).toNat
    obtain ⟨old, c2⟩ : ∃ old, W1.cell? ⟨g, (a % 4096).toNat, none⟩ = some (.int .u8 old) := ⟨_, byte_row hg (by rw [hlen]; omega)⟩
    have D3 := Aside0.mk (D2.out.trans (D2.out.em.setbyte HH.out (a % 4096).toNat (by omega) b HB.out))
    clear hg hlen
    go_wp2
    go_end0
    subst hgs
    have D4 := D3.out
    rw [← HP.out, List.set_set] at D4
    exact ⟨rfl, D4⟩)
theorem xset_calls (h : XM w c pg fx ps S inp out) (a : Int) (h0 : 0 ≤ a) (h1 : a < 8388608) (b : Int) (hb : 0 ≤ b ∧ b < 256) : Calls Try.prog 61 #[.pointer (some ⟨c, 0, none⟩), .int .i64 a, .int .u8 b] w fun e w' => e = .returned (.tuple #[]) ∧ ∃ ps', XDid w w' c pg fx ps S ps' S inp out ∧ ∀ i, byteAt ps' i = if i = a.toNat then b else byteAt ps i := by
  have hl : (a / 4096).toNat < ps.length := by rw [h.npg]; omega
  have hkm : ∀ i : Nat, i = (a / 4096).toNat * 4096 + (a % 4096).toNat ↔ i = a.toNat := by intro i; omega
  cases hk : ps[(a / 4096).toNat]? with
  | none => rw [List.getElem?_eq_none_iff] at hk; omega
  | some p =>
    cases p with
    | none =>
      refine (xset_laid h a h0 h1 b hb hk).mono ?_
      rintro e w' ⟨rfl, d⟩
      refine ⟨rfl, _, d, fun i => ?_⟩
      have h2 := byte_set (List.getElem?_set_self (l := ps) (a := some (w.heap.size, zpage)) hl) (by rw [zpage, List.length_replicate]) (a % 4096).toNat (by omega) b i
      rw [List.set_set] at h2
      rw [h2, same_laid hk]
      simp only [hkm]
    | some q =>
      obtain ⟨g, bs⟩ := q
      refine (xset_there h a h0 h1 b hb hk).mono ?_
      rintro e w' ⟨rfl, d⟩
      refine ⟨rfl, _, d, fun i => ?_⟩
      rw [byte_set hk (h.page g bs (List.mem_of_getElem? hk)).2.1 (a % 4096).toNat (by omega) b i]
      simp only [hkm]
end Go.Proofs.Ytejhnlljddjicaa.Ma
namespace Go.Proofs.Ytejhnlljddjicaa.Ma
open Go.RowKit Go.Proofs.Ytejhnlljddjicaa.PLk Go.Proofs.YtejhnlljddjicaaW.PrintWords Go.Proofs.YtejhnlljddjicaaW.PrintLast Go.Proofs.YtejhnlljddjicaaW.PrintMore Go.Proofs.Ytejhnlljddjicaa.La
set_option linter.unusedVariables false
set_option linter.unusedSimpArgs false
variable {w w' : World} {c pg : Nat} {ps ps' : Pages} {S S' : Cpu} {inp out inp' out' : List Int}
theorem ref_form_all : ∀ j : Fin 4, ∀ n : Fin 256, mortiseref20_Form.f (17 + j.val) (n.val : Int) = enc_Form.f 20 (n.val : Int) := by decide +kernel
theorem ref_form (k : Nat) (hk : 17 ≤ k ∧ k ≤ 20) (op : Int) (hop : 0 ≤ op ∧ op < 256) : mortiseref20_Form.f k op = enc_Form.f 20 op := by
  have h := ref_form_all ⟨k - 17, by omega⟩ ⟨op.toNat, by omega⟩
  have e1 : 17 + (k - 17) = k := by omega
  have e2 : ((op.toNat : Nat) : Int) = op := Int.toNat_of_nonneg hop.1
  simp only [e1, e2] at h
  exact h
theorem or0 (x : Int) (h : 0 ≤ x ∧ x < 4294967296) : bits .or .u32 x 0 = x := by
  rw [or_bv, show bvOf 0 = 0#32 from rfl, BitVec.or_zero, back_of x h.1 h.2]
theorem or00 (x y : Int) : bits .or .u32 (bits .or .u32 x y) 0 = bits .or .u32 x y := or0 _ (bits_range .or _ _ (.inr (.inl rfl)))
def rightB (f a b d imm : Int) : Prop :=
  (0 ≤ a ∧ a ≤ 15) ∧ (0 ≤ b ∧ b ≤ 15) ∧ (0 ≤ d ∧ d ≤ 15) ∧
  ((f = 1 ∧ imm = 0) ∨ (f = 2 ∧ d = 0 ∧ -32768 ≤ imm ∧ imm ≤ 32767) ∨ (f = 3 ∧ b = 0 ∧ d = 0 ∧ -32768 ≤ imm ∧ imm ≤ 32767) ∨ (f = 4 ∧ b = 0 ∧ d = 0 ∧ 0 ≤ imm ∧ imm ≤ 65535) ∨
   (f = 5 ∧ a = 0 ∧ b = 0 ∧ d = 0 ∧ -8388608 ≤ imm ∧ imm ≤ 8388607) ∨ (f = 6 ∧ a = 0 ∧ b = 0 ∧ d = 0 ∧ 0 ≤ imm ∧ imm ≤ 16777212 ∧ imm % 4 = 0) ∨ (f = 7 ∧ b = 0 ∧ d = 0 ∧ imm = 0))
theorem ref_reg (a : Int) (h : 0 ≤ a ∧ a ≤ 15) : mortiseref20_reg.f a = some true := by
  unfold mortiseref20_reg.f
  rw [if_pos (by omega)]
  simp [h.2]
theorem ref_within (a l u : Int) (h : l ≤ a ∧ a ≤ u) : mortiseref20_within.f a l u = some true := by
  unfold mortiseref20_within.f
  rw [if_pos (by omega)]
  simp [h.2]
theorem ref_right (k : Nat) (hk : 18 ≤ k ∧ k ≤ 20) (op a b d imm f : Int) (hop : 0 ≤ op ∧ op < 256) (hf : enc_Form.f 20 op = some f) (h : rightB f a b d imm) : mortiseref20_Right.f k op a b d imm = some true := by
  obtain ⟨ha, hb, hd, hr⟩ := h
  unfold mortiseref20_Right.f
  rw [ref_reg a ha, ref_reg b hb, ref_reg d hd]
  simp only [Option.bind_some, if_true, Bool.not_true]
  obtain ⟨j, rfl⟩ : ∃ j, k = j + 1 := ⟨k - 1, by omega⟩
  rw [mortiseref20_Right.j0]
  rw [ref_form j (by omega) op hop, hf]
  simp only [Option.bind_some, Bool.false_eq_true, if_false]
  rcases hr with ⟨rfl, rfl⟩ | ⟨rfl, rfl, h1⟩ | ⟨rfl, rfl, rfl, h1⟩ | ⟨rfl, rfl, rfl, h1⟩ | ⟨rfl, rfl, rfl, rfl, h1⟩ | ⟨rfl, rfl, rfl, rfl, h1, h2, h3⟩ | ⟨rfl, rfl, rfl, rfl⟩
  · rfl
  · simp [ref_within imm _ _ h1]
  · simp [ref_within imm _ _ h1]
  · simp [ref_within imm _ _ h1]
  · simp [ref_within imm _ _ h1]
  · simp [ref_within imm _ _ ⟨h1, h2⟩, Int.tmod_eq_emod_of_nonneg h1, h3]
  · rfl
theorem ref_wrong6 (k : Nat) (hk : 18 ≤ k ∧ k ≤ 20) (op imm : Int) (hop : 0 ≤ op ∧ op < 256) (hf : enc_Form.f 20 op = some 6) (h : 0 ≤ imm ∧ imm ≤ 16777215 ∧ imm % 4 ≠ 0) : mortiseref20_Right.f k op 0 0 0 imm = some false := by
  unfold mortiseref20_Right.f
  rw [ref_reg 0 (by decide)]
  simp only [Option.bind_some, if_true, Bool.not_true]
  obtain ⟨j, rfl⟩ : ∃ j, k = j + 1 := ⟨k - 1, by omega⟩
  rw [mortiseref20_Right.j0]
  rw [ref_form j (by omega) op hop, hf]
  by_cases h5 : imm ≤ 16777212
  · simp [ref_within imm 0 16777212 ⟨h.1, h5⟩, Int.tmod_eq_emod_of_nonneg h.1, h.2.2]
  · have e : mortiseref20_within.f imm 0 16777212 = some false := by
      unfold mortiseref20_within.f
      rw [if_pos h.1]
      simp; omega
    simp [e]
theorem ref_enc (k : Nat) (hk : 18 ≤ k ∧ k ≤ 20) (op a b d imm f : Int) (hop : 0 ≤ op ∧ op < 256) (hf : enc_Form.f 20 op = some f) (h : rightB f a b d imm) : mortiseref20_Encode.f k op a b d imm = some (encW (decide (f = 5 ∨ f = 6)) op a b d imm, 0) := by
  have hb := h
  obtain ⟨ha, hb1, hd, hr⟩ := hb
  unfold mortiseref20_Encode.f
  rw [ref_right k hk op a b d imm f hop hf h, ref_form k (by omega) op hop, hf]
  simp only [Option.bind_some, if_true]
  obtain ⟨j, rfl⟩ : ∃ j, k = j + 1 := ⟨k - 1, by omega⟩
  simp only [mortiseref20_Encode.j0, refOf]
  have eo : op % 4294967296 = op := by omega
  have e8 : ∀ x : Int, shl .u32 x 8 = x * 256 % 4294967296 := fun x => by rw [shl32 x 8 (by decide)]; rfl
  have e12 : ∀ x : Int, shl .u32 x 12 = x * 4096 % 4294967296 := fun x => by rw [shl32 x 12 (by decide)]; rfl
  have e16 : ∀ x : Int, shl .u32 x 16 = x * 65536 % 4294967296 := fun x => by rw [shl32 x 16 (by decide)]; rfl
  have z : (0 : Int) % 4294967296 * 256 % 4294967296 = 0 := by decide
  have z2 : (0 : Int) % 4294967296 * 4096 % 4294967296 = 0 := by decide
  have z3 : (0 : Int) % 4294967296 * 65536 % 4294967296 = 0 := by decide
  unfold encW
  simp only [e8, e12, e16, eo, Option.bind_some]
  have o0 := or0 op (by omega)
  rcases hr with ⟨rfl, rfl⟩ | ⟨rfl, rfl, h1⟩ | ⟨rfl, rfl, rfl, h1⟩ | ⟨rfl, rfl, rfl, h1⟩ | ⟨rfl, rfl, rfl, rfl, h1⟩ | ⟨rfl, rfl, rfl, rfl, h1, h2, h3⟩ | ⟨rfl, rfl, rfl, rfl⟩
  · simp [or00, e16]
  all_goals simp [o0, or00, e8, e16]
theorem ref_wrong_b (k : Nat) (hk : 18 ≤ k ∧ k ≤ 20) (op a b imm f : Int) (hop : 0 ≤ op ∧ op < 256) (hf : enc_Form.f 20 op = some f) (h3 : f = 3 ∨ f = 4 ∨ f = 7) (ha : 0 ≤ a ∧ a ≤ 15) (hb : 0 ≤ b ∧ b ≤ 15) (hn : b ≠ 0) : mortiseref20_Right.f k op a b 0 imm = some false := by
  unfold mortiseref20_Right.f
  rw [ref_reg a ha, ref_reg b hb, ref_reg 0 (by decide)]
  simp only [Option.bind_some, if_true, Bool.not_true]
  obtain ⟨j, rfl⟩ : ∃ j, k = j + 1 := ⟨k - 1, by omega⟩
  rw [mortiseref20_Right.j0]
  rw [ref_form j (by omega) op hop, hf]
  rcases h3 with rfl | rfl | rfl <;> simp [hn]
theorem ref_wrong_7 (k : Nat) (hk : 18 ≤ k ∧ k ≤ 20) (op a imm : Int) (hop : 0 ≤ op ∧ op < 256) (hf : enc_Form.f 20 op = some 7) (ha : 0 ≤ a ∧ a ≤ 15) (hn : imm ≠ 0) : mortiseref20_Right.f k op a 0 0 imm = some false := by
  unfold mortiseref20_Right.f
  rw [ref_reg a ha, ref_reg 0 (by decide)]
  simp only [Option.bind_some, if_true, Bool.not_true]
  obtain ⟨j, rfl⟩ : ∃ j, k = j + 1 := ⟨k - 1, by omega⟩
  rw [mortiseref20_Right.j0]
  rw [ref_form j (by omega) op hop, hf]
  simp [hn]
theorem ref_enc_no (k : Nat) (op a b d imm : Int) (h : mortiseref20_Right.f k op a b d imm = some false) : mortiseref20_Encode.f k op a b d imm = some (0, 200) := by
  unfold mortiseref20_Encode.f
  rw [h]; rfl
theorem encW_sum (op a b imm : Int) (hop : 0 ≤ op ∧ op < 256) (ha : 0 ≤ a ∧ a ≤ 15) (hb : 0 ≤ b ∧ b ≤ 15) : encW false op a b 0 imm = op + 256 * a + 4096 * b + 65536 * (imm % 65536) := by
  unfold encW
  rw [shl32 _ 8 (by decide), shl32 _ 12 (by decide), shl32 _ 16 (by decide), if_neg (by decide), shl32 _ 16 (by decide)]
  have p8 : (2 : Int) ^ (8 : Int).toNat = 256 := by decide
  have p12 : (2 : Int) ^ (12 : Int).toNat = 4096 := by decide
  have p16 : (2 : Int) ^ (16 : Int).toNat = 65536 := by decide
  rw [p8, p12, p16]
  rw [show a % 4294967296 * 256 % 4294967296 = 256 * a by omega, show b % 4294967296 * 4096 % 4294967296 = 4096 * b by omega, show (0 : Int) % 4294967296 * 65536 % 4294967296 = 0 by decide, show imm % 4294967296 * 65536 % 4294967296 = 65536 * (imm % 65536) by omega, or00]
  rw [or_low 8 op (256 * a) (by omega) (by omega), or_low 12 (op + 256 * a) (4096 * b) (by omega) (by omega), or_low 16 (op + 256 * a + 4096 * b) (65536 * (imm % 65536)) (by omega) (by omega)]
theorem ne_of_sum {a b v : Int} (s : a = b) (h : b ≠ v) : ¬ a = v := by rw [s]; exact h
end Go.Proofs.Ytejhnlljddjicaa.Ma
namespace Go.Proofs.Ytejhnlljddjicaa.Ma
open Go.RowKit Go.Proofs.Ytejhnlljddjicaa.PLk Go.Proofs.YtejhnlljddjicaaW.PrintWords Go.Proofs.YtejhnlljddjicaaW.PrintLast Go.Proofs.YtejhnlljddjicaaW.PrintMore Go.Proofs.Ytejhnlljddjicaa.La
set_option linter.unusedVariables false
set_option linter.unusedSimpArgs false
variable {w w' : World} {c pg : Nat} {ps ps' : Pages} {S S' : Cpu} {inp out inp' out' : List Int}
/-- How Decode ends. -/
def DecEnd (v a b d imm r1 r2 : Int) (e : Ending) : Prop := ((r2 = 0 ∧ r1 = v) → e = .returned (.tuple #[.agg #[.int .i64 (v % 256), .int .i64 a, .int .i64 b, .int .i64 d, .int .i64 imm], .int .i64 0])) ∧ (¬ (r2 = 0 ∧ r1 = v) → e = .returned (.tuple #[.agg #[.int .i64 0, .int .i64 0, .int .i64 0, .int .i64 0, .int .i64 0], .int .i64 200]))
set_option maxHeartbeats 4000000 in
set_option maxRecDepth 100000 in
theorem xdecode (w : World) (v : Int) (hv : 0 ≤ v ∧ v < 4294967296) (f : Int) (hf : enc_Form.f 20 (v % 256) = some f) (a b d imm r1 r2 : Int)
    (hg : (f = 5 ∧ a = 0 ∧ b = 0 ∧ d = 0 ∧ imm = wrap32 v / 256) ∨ (f = 6 ∧ a = 0 ∧ b = 0 ∧ d = 0 ∧ imm = v / 256) ∨ (f = 4 ∧ a = v / 256 % 16 ∧ b = v / 4096 % 16 ∧ d = 0 ∧ imm = v / 65536) ∨ (f = 1 ∧ a = v / 256 % 16 ∧ b = v / 4096 % 16 ∧ d = v / 65536 % 16 ∧ imm = 0) ∨ ((f = 2 ∨ f = 3 ∨ f = 7) ∧ a = v / 256 % 16 ∧ b = v / 4096 % 16 ∧ d = 0 ∧ imm = wrap32 v / 65536))
    (hE : mortiseref20_Encode.f 20 (v % 256) a b d imm = some (r1, r2)) :
    Calls Try.prog 8 #[.int .u32 v] w fun e w' => DecEnd v a b d imm r1 r2 e ∧ Below w.heap.size w w' := by
  have eA := and255 v hv.1 hv.2
  have e1 := and15 (v / 256) (by omega) (by omega)
  have e2 := and15 (v / 4096) (by omega) (by omega)
  have e3 := and15 (v / 65536) (by omega) (by omega)
  have w1 : IntKind.i64.wrap (v % 256) = v % 256 := IntWalk.i64_in _ (by omega)
  have w2 : IntKind.i64.wrap (v / 256 % 16) = v / 256 % 16 := IntWalk.i64_in _ (by omega)
  have w3 : IntKind.i64.wrap (v / 4096 % 16) = v / 4096 % 16 := IntWalk.i64_in _ (by omega)
  have w4 : IntKind.i64.wrap (v / 65536 % 16) = v / 65536 % 16 := IntWalk.i64_in _ (by omega)
  have w5 : IntKind.i64.wrap (v / 256) = v / 256 := IntWalk.i64_in _ (by omega)
  have w6 : IntKind.i64.wrap (v / 65536) = v / 65536 := IntWalk.i64_in _ (by omega)
  have w0 : -2147483648 ≤ wrap32 v ∧ wrap32 v ≤ 2147483647 := by unfold wrap32; omega
  have w7 : IntKind.i64.wrap (wrap32 v / 256) = wrap32 v / 256 := IntWalk.i64_in _ (by omega)
  have w8 : IntKind.i64.wrap (wrap32 v / 65536) = wrap32 v / 65536 := IntWalk.i64_in _ (by omega)
  have HF := Aside0.mk (show mortiseref20_Form.f 20 (v % 256) = some f by rw [ref_form 20 (by decide) (v % 256) (by omega)]; exact hf)
  have HE := Aside0.mk hE
  have HV := Aside0.mk hv
  have BB := Aside0.mk (show Below w.heap.size w ((w.alloc (.cells #[.int .i64 0, .int .i64 0, .int .i64 0, .int .i64 0, .int .i64 0] 36)).alloc (.cells #[.int .i64 (v % 256), .int .i64 0, .int .i64 0, .int .i64 0, .int .i64 0] 36)) from below_alloc (below_alloc (Below.refl _ _) _) _)
  have R2 := Aside0.mk (show ((w.alloc (.cells #[.int .i64 0, .int .i64 0, .int .i64 0, .int .i64 0, .int .i64 0] 36)).alloc (.cells #[.int .i64 (v % 256), .int .i64 0, .int .i64 0, .int .i64 0, .int .i64 0] 36)).heap[w.heap.size]? = some (.cells #[.int .i64 0, .int .i64 0, .int .i64 0, .int .i64 0, .int .i64 0] 36 (0, 0)) from blk_alloc (heap_at _ _ _ rfl) _)
  have R4 := Aside0.mk (show ((w.alloc (.cells #[.int .i64 0, .int .i64 0, .int .i64 0, .int .i64 0, .int .i64 0] 36)).alloc (.cells #[.int .i64 (v % 256), .int .i64 0, .int .i64 0, .int .i64 0, .int .i64 0] 36)).heap[w.heap.size + 1]? = some (.cells #[.int .i64 (v % 256), .int .i64 0, .int .i64 0, .int .i64 0, .int .i64 0] 36 (0, 0)) from heap_at _ _ _ (by simp))
  have G24 := Aside0.mk (show w.heap.size ≠ w.heap.size + 1 ∧ w.heap.size ≤ w.heap.size + 1 by omega)
  have HG := Aside0.mk hg
  clear hf hE hv w0 hg
  go_enter Try.func8, Try.ntmps8
  go_upto_region 2 with (fail)
  generalize ((w.alloc (.cells #[.int .i64 0, .int .i64 0, .int .i64 0, .int .i64 0, .int .i64 0] 36)).alloc (.cells #[.int .i64 (v % 256), .int .i64 0, .int .i64 0, .int .i64 0, .int .i64 0] 36)) = W0 at BB R2 R4 ⊢
  generalize hg4 : w.heap.size + 1 = g4 at R4 G24 ⊢
  generalize hg2 : w.heap.size = g2 at R2 G24 ⊢
  have HG2 := Aside0.mk hg2
  clear hg2 hg4
  have c0 := (blk_cell R4.out 0).trans rfl
  go_upto_block 0 with (first | (go_at_call 18; refine (mortiseref20_Form.calls 20 (v % 256) f _ HF.out).mono ?_; rintro e Y ⟨rfl, hb7⟩; have HBY := Aside0.mk hb7; clear hb7))
  have R2 := Aside0.mk (blk_below R2.out HBY.out)
  have R4 := Aside0.mk (blk_below R4.out HBY.out)
  have BB := Aside0.mk (pm_chain BB.out HBY.out)
  clear HBY c0
  have HW4 := Aside0.mk (show w.heap.size ≤ g4 by have := HG2.out; have := G24.out.2; omega)
  generalize Y = W1 at R2 R4 BB ⊢
  go_cut [] (fun wc => Aside0 (wc.heap[g4]? = some (.cells #[.int .i64 (v % 256), .int .i64 a, .int .i64 b, .int .i64 d, .int .i64 imm] 36 (0, 0))) ∧ Aside0 (wc.heap[g2]? = some (.cells #[.int .i64 0, .int .i64 0, .int .i64 0, .int .i64 0, .int .i64 0] 36 (0, 0))) ∧ Aside0 (Below w.heap.size w wc))
  case first =>
    rcases HG.out with ⟨rfl, rfl, rfl, rfl, rfl⟩ | ⟨rfl, rfl, rfl, rfl, rfl⟩ | ⟨rfl, rfl, rfl, rfl, rfl⟩ | ⟨rfl, rfl, rfl, rfl, rfl⟩ | ⟨hff, rfl, rfl, rfl, rfl⟩
    · have c4 := (blk_cell R4.out 4).trans rfl
      have f4 := blk_frozen R4.out 4
      clear w1 w2 w3 w4 w5 w6 w8 e1 e2 e3 eA
      go_wp2_with (fail)
      all_goals go_meet
      all_goals exact ⟨⟨blk_set R4.out 4 _⟩, ⟨blk_far R2.out (p := ⟨g4, 4, none⟩) G24.out.1 _⟩, ⟨BB.out.setCell (p := ⟨g4, 4, none⟩) HW4.out _⟩⟩
    · have c4 := (blk_cell R4.out 4).trans rfl
      have f4 := blk_frozen R4.out 4
      clear w1 w2 w3 w4 w6 w7 w8 e1 e2 e3 eA
      go_wp2_with (fail)
      all_goals go_meet
      all_goals exact ⟨⟨blk_set R4.out 4 _⟩, ⟨blk_far R2.out (p := ⟨g4, 4, none⟩) G24.out.1 _⟩, ⟨BB.out.setCell (p := ⟨g4, 4, none⟩) HW4.out _⟩⟩
    · clear w5 w7
      have c1 := (blk_cell R4.out 1).trans rfl
      have c2 := (blk_cell R4.out 2).trans rfl
      have c4 := (blk_cell R4.out 4).trans rfl
      have f1 := blk_frozen R4.out 1
      have f2 := blk_frozen R4.out 2
      have f4 := blk_frozen R4.out 4
      go_upto_region 6 with (fail)
      have R4n := Aside0.mk (show (((W1.setCell ⟨g4, 1, none⟩ (.int .i64 (v / 256 % 16))).setCell ⟨g4, 2, none⟩ (.int .i64 (v / 4096 % 16))).setCell ⟨g4, 4, none⟩ (.int .i64 (wrap32 v / 65536))).heap[g4]? = some (.cells #[.int .i64 (v % 256), .int .i64 (v / 256 % 16), .int .i64 (v / 4096 % 16), .int .i64 0, .int .i64 (wrap32 v / 65536)] 36 (0, 0)) from (blk_set (blk_set (blk_set R4.out 1 _) 2 _) 4 _))
      have R2n := Aside0.mk (show (((W1.setCell ⟨g4, 1, none⟩ (.int .i64 (v / 256 % 16))).setCell ⟨g4, 2, none⟩ (.int .i64 (v / 4096 % 16))).setCell ⟨g4, 4, none⟩ (.int .i64 (wrap32 v / 65536))).heap[g2]? = some (.cells #[.int .i64 0, .int .i64 0, .int .i64 0, .int .i64 0, .int .i64 0] 36 (0, 0)) from (blk_far (blk_far (blk_far R2.out (p := ⟨g4, 1, none⟩) G24.out.1 _) (p := ⟨g4, 2, none⟩) G24.out.1 _) (p := ⟨g4, 4, none⟩) G24.out.1 _))
      have BBn := Aside0.mk (show Below w.heap.size w (((W1.setCell ⟨g4, 1, none⟩ (.int .i64 (v / 256 % 16))).setCell ⟨g4, 2, none⟩ (.int .i64 (v / 4096 % 16))).setCell ⟨g4, 4, none⟩ (.int .i64 (wrap32 v / 65536))) from (((BB.out.setCell (p := ⟨g4, 1, none⟩) HW4.out _).setCell (p := ⟨g4, 2, none⟩) HW4.out _).setCell (p := ⟨g4, 4, none⟩) HW4.out _))
      clear R4 R2 BB
      have R4 := R4n
      have R2 := R2n
      have BB := BBn
      clear R4n R2n BBn
      generalize (((W1.setCell ⟨g4, 1, none⟩ (.int .i64 (v / 256 % 16))).setCell ⟨g4, 2, none⟩ (.int .i64 (v / 4096 % 16))).setCell ⟨g4, 4, none⟩ (.int .i64 (wrap32 v / 65536))) = W2 at R4 R2 BB ⊢
      clear c1 c2 c4 f1 f2 f4
      have c0 := (blk_cell R4.out 0).trans rfl
      go_upto_region 7 with (first | (go_at_call 18; refine (mortiseref20_Form.calls 20 (v % 256) 4 _ HF.out).mono ?_; rintro e Y2 ⟨rfl, hb7⟩; have HBY := Aside0.mk hb7; clear hb7))
      have R4n := Aside0.mk (blk_below R4.out HBY.out)
      have R2n := Aside0.mk (blk_below R2.out HBY.out)
      have BBn := Aside0.mk (pm_chain BB.out HBY.out)
      clear R4 R2 BB HBY c0
      have R4 := R4n
      have R2 := R2n
      have BB := BBn
      clear R4n R2n BBn
      have c4 := (blk_cell R4.out 4).trans rfl
      have f4 := blk_frozen R4.out 4
      go_upto_region 8 with (fail)
      have R4n := Aside0.mk (show (Y2.setCell ⟨g4, 4, none⟩ (.int .i64 (v / 65536))).heap[g4]? = some (.cells #[.int .i64 (v % 256), .int .i64 (v / 256 % 16), .int .i64 (v / 4096 % 16), .int .i64 0, .int .i64 (v / 65536)] 36 (0, 0)) from (blk_set R4.out 4 _))
      have R2n := Aside0.mk (show (Y2.setCell ⟨g4, 4, none⟩ (.int .i64 (v / 65536))).heap[g2]? = some (.cells #[.int .i64 0, .int .i64 0, .int .i64 0, .int .i64 0, .int .i64 0] 36 (0, 0)) from (blk_far R2.out (p := ⟨g4, 4, none⟩) G24.out.1 _))
      have BBn := Aside0.mk (show Below w.heap.size w (Y2.setCell ⟨g4, 4, none⟩ (.int .i64 (v / 65536))) from (BB.out.setCell (p := ⟨g4, 4, none⟩) HW4.out _))
      clear R4 R2 BB
      have R4 := R4n
      have R2 := R2n
      have BB := BBn
      clear R4n R2n BBn
      generalize (Y2.setCell ⟨g4, 4, none⟩ (.int .i64 (v / 65536))) = W3 at R4 R2 BB ⊢
      clear c4 f4
      have c0 := (blk_cell R4.out 0).trans rfl
      go_wp2_with (first | (go_at_call 18; refine (mortiseref20_Form.calls 20 (v % 256) 4 _ HF.out).mono ?_; rintro e Y3 ⟨rfl, hb7⟩; have HBY := Aside0.mk hb7; clear hb7))
      all_goals go_meet
      all_goals exact ⟨⟨blk_below R4.out HBY.out⟩, ⟨blk_below R2.out HBY.out⟩, ⟨pm_chain BB.out HBY.out⟩⟩
    · clear w5 w7
      have c1 := (blk_cell R4.out 1).trans rfl
      have c2 := (blk_cell R4.out 2).trans rfl
      have c4 := (blk_cell R4.out 4).trans rfl
      have f1 := blk_frozen R4.out 1
      have f2 := blk_frozen R4.out 2
      have f4 := blk_frozen R4.out 4
      go_upto_region 6 with (fail)
      have R4n := Aside0.mk (show (((W1.setCell ⟨g4, 1, none⟩ (.int .i64 (v / 256 % 16))).setCell ⟨g4, 2, none⟩ (.int .i64 (v / 4096 % 16))).setCell ⟨g4, 4, none⟩ (.int .i64 (wrap32 v / 65536))).heap[g4]? = some (.cells #[.int .i64 (v % 256), .int .i64 (v / 256 % 16), .int .i64 (v / 4096 % 16), .int .i64 0, .int .i64 (wrap32 v / 65536)] 36 (0, 0)) from (blk_set (blk_set (blk_set R4.out 1 _) 2 _) 4 _))
      have R2n := Aside0.mk (show (((W1.setCell ⟨g4, 1, none⟩ (.int .i64 (v / 256 % 16))).setCell ⟨g4, 2, none⟩ (.int .i64 (v / 4096 % 16))).setCell ⟨g4, 4, none⟩ (.int .i64 (wrap32 v / 65536))).heap[g2]? = some (.cells #[.int .i64 0, .int .i64 0, .int .i64 0, .int .i64 0, .int .i64 0] 36 (0, 0)) from (blk_far (blk_far (blk_far R2.out (p := ⟨g4, 1, none⟩) G24.out.1 _) (p := ⟨g4, 2, none⟩) G24.out.1 _) (p := ⟨g4, 4, none⟩) G24.out.1 _))
      have BBn := Aside0.mk (show Below w.heap.size w (((W1.setCell ⟨g4, 1, none⟩ (.int .i64 (v / 256 % 16))).setCell ⟨g4, 2, none⟩ (.int .i64 (v / 4096 % 16))).setCell ⟨g4, 4, none⟩ (.int .i64 (wrap32 v / 65536))) from (((BB.out.setCell (p := ⟨g4, 1, none⟩) HW4.out _).setCell (p := ⟨g4, 2, none⟩) HW4.out _).setCell (p := ⟨g4, 4, none⟩) HW4.out _))
      clear R4 R2 BB
      have R4 := R4n
      have R2 := R2n
      have BB := BBn
      clear R4n R2n BBn
      generalize (((W1.setCell ⟨g4, 1, none⟩ (.int .i64 (v / 256 % 16))).setCell ⟨g4, 2, none⟩ (.int .i64 (v / 4096 % 16))).setCell ⟨g4, 4, none⟩ (.int .i64 (wrap32 v / 65536))) = W2 at R4 R2 BB ⊢
      clear c1 c2 c4 f1 f2 f4
      have c0 := (blk_cell R4.out 0).trans rfl
      go_upto_region 8 with (first | (go_at_call 18; refine (mortiseref20_Form.calls 20 (v % 256) 1 _ HF.out).mono ?_; rintro e Y2 ⟨rfl, hb7⟩; have HBY := Aside0.mk hb7; clear hb7))
      have R4n := Aside0.mk (blk_below R4.out HBY.out)
      have R2n := Aside0.mk (blk_below R2.out HBY.out)
      have BBn := Aside0.mk (pm_chain BB.out HBY.out)
      clear R4 R2 BB HBY c0
      have R4 := R4n
      have R2 := R2n
      have BB := BBn
      clear R4n R2n BBn
      have c0 := (blk_cell R4.out 0).trans rfl
      go_upto_region 9 with (first | (go_at_call 18; refine (mortiseref20_Form.calls 20 (v % 256) 1 _ HF.out).mono ?_; rintro e Y3 ⟨rfl, hb7⟩; have HBY := Aside0.mk hb7; clear hb7))
      have R4n := Aside0.mk (blk_below R4.out HBY.out)
      have R2n := Aside0.mk (blk_below R2.out HBY.out)
      have BBn := Aside0.mk (pm_chain BB.out HBY.out)
      clear R4 R2 BB HBY c0
      have R4 := R4n
      have R2 := R2n
      have BB := BBn
      clear R4n R2n BBn
      have c3 := (blk_cell R4.out 3).trans rfl
      have c4 := (blk_cell R4.out 4).trans rfl
      have f3 := blk_frozen R4.out 3
      have f4 := blk_frozen R4.out 4
      go_wp2_with (fail)
      all_goals go_meet
      all_goals exact ⟨⟨(blk_set (blk_set R4.out 3 _) 4 _)⟩, ⟨(blk_far (blk_far R2.out (p := ⟨g4, 3, none⟩) G24.out.1 _) (p := ⟨g4, 4, none⟩) G24.out.1 _)⟩, ⟨((BB.out.setCell (p := ⟨g4, 3, none⟩) HW4.out _).setCell (p := ⟨g4, 4, none⟩) HW4.out _)⟩⟩
    · clear w5 w7
      have q5 : ¬ f = 5 := by omega
      have q6 : ¬ f = 6 := by omega
      have q0 : ¬ f = 0 := by omega
      have q4 : ¬ f = 4 := by omega
      have q1 : ¬ f = 1 := by omega
      clear hff
      have c1 := (blk_cell R4.out 1).trans rfl
      have c2 := (blk_cell R4.out 2).trans rfl
      have c4 := (blk_cell R4.out 4).trans rfl
      have f1 := blk_frozen R4.out 1
      have f2 := blk_frozen R4.out 2
      have f4 := blk_frozen R4.out 4
      go_upto_region 6 with (fail)
      have R4n := Aside0.mk (show (((W1.setCell ⟨g4, 1, none⟩ (.int .i64 (v / 256 % 16))).setCell ⟨g4, 2, none⟩ (.int .i64 (v / 4096 % 16))).setCell ⟨g4, 4, none⟩ (.int .i64 (wrap32 v / 65536))).heap[g4]? = some (.cells #[.int .i64 (v % 256), .int .i64 (v / 256 % 16), .int .i64 (v / 4096 % 16), .int .i64 0, .int .i64 (wrap32 v / 65536)] 36 (0, 0)) from (blk_set (blk_set (blk_set R4.out 1 _) 2 _) 4 _))
      have R2n := Aside0.mk (show (((W1.setCell ⟨g4, 1, none⟩ (.int .i64 (v / 256 % 16))).setCell ⟨g4, 2, none⟩ (.int .i64 (v / 4096 % 16))).setCell ⟨g4, 4, none⟩ (.int .i64 (wrap32 v / 65536))).heap[g2]? = some (.cells #[.int .i64 0, .int .i64 0, .int .i64 0, .int .i64 0, .int .i64 0] 36 (0, 0)) from (blk_far (blk_far (blk_far R2.out (p := ⟨g4, 1, none⟩) G24.out.1 _) (p := ⟨g4, 2, none⟩) G24.out.1 _) (p := ⟨g4, 4, none⟩) G24.out.1 _))
      have BBn := Aside0.mk (show Below w.heap.size w (((W1.setCell ⟨g4, 1, none⟩ (.int .i64 (v / 256 % 16))).setCell ⟨g4, 2, none⟩ (.int .i64 (v / 4096 % 16))).setCell ⟨g4, 4, none⟩ (.int .i64 (wrap32 v / 65536))) from (((BB.out.setCell (p := ⟨g4, 1, none⟩) HW4.out _).setCell (p := ⟨g4, 2, none⟩) HW4.out _).setCell (p := ⟨g4, 4, none⟩) HW4.out _))
      clear R4 R2 BB
      have R4 := R4n
      have R2 := R2n
      have BB := BBn
      clear R4n R2n BBn
      generalize (((W1.setCell ⟨g4, 1, none⟩ (.int .i64 (v / 256 % 16))).setCell ⟨g4, 2, none⟩ (.int .i64 (v / 4096 % 16))).setCell ⟨g4, 4, none⟩ (.int .i64 (wrap32 v / 65536))) = W2 at R4 R2 BB ⊢
      clear c1 c2 c4 f1 f2 f4
      have c0 := (blk_cell R4.out 0).trans rfl
      go_upto_region 8 with (first | (go_at_call 18; refine (mortiseref20_Form.calls 20 (v % 256) f _ HF.out).mono ?_; rintro e Y2 ⟨rfl, hb7⟩; have HBY := Aside0.mk hb7; clear hb7))
      have R4n := Aside0.mk (blk_below R4.out HBY.out)
      have R2n := Aside0.mk (blk_below R2.out HBY.out)
      have BBn := Aside0.mk (pm_chain BB.out HBY.out)
      clear R4 R2 BB HBY c0
      have R4 := R4n
      have R2 := R2n
      have BB := BBn
      clear R4n R2n BBn
      have c0 := (blk_cell R4.out 0).trans rfl
      go_wp2_with (first | (go_at_call 18; refine (mortiseref20_Form.calls 20 (v % 256) f _ HF.out).mono ?_; rintro e Y3 ⟨rfl, hb7⟩; have HBY := Aside0.mk hb7; clear hb7))
      all_goals go_meet
      all_goals exact ⟨⟨blk_below R4.out HBY.out⟩, ⟨blk_below R2.out HBY.out⟩, ⟨pm_chain BB.out HBY.out⟩⟩
  case rest =>
    obtain ⟨R4, R2, BB⟩ := hcut
    clear w1 w2 w3 w4 w5 w6 w7 w8 e1 e2 e3 eA
    have c0 := (blk_cell R4.out 0).trans rfl
    have c1 := (blk_cell R4.out 1).trans rfl
    have c2 := (blk_cell R4.out 2).trans rfl
    have c3 := (blk_cell R4.out 3).trans rfl
    have c4 := (blk_cell R4.out 4).trans rfl
    go_upto_region 18 with (first | (go_at_call 19; refine (mortiseref20_Encode.calls 20 _ _ _ _ _ _ _ _ HE.out).mono ?_; rintro e Y ⟨rfl, hb7⟩; have HBY := Aside0.mk hb7; clear hb7))
    have S4 := Aside0.mk (blk_below R4.out HBY.out)
    have S2 := Aside0.mk (blk_below R2.out HBY.out)
    have BY := Aside0.mk (pm_chain BB.out HBY.out)
    have HWG := Aside0.mk (show w.heap.size ≤ g2 by have := HG2.out; omega)
    clear c0 c1 c2 c3 c4
    have d0 := (blk_cell S4.out 0).trans rfl
    have d1 := (blk_cell S4.out 1).trans rfl
    have d2 := (blk_cell S4.out 2).trans rfl
    have d3 := (blk_cell S4.out 3).trans rfl
    have d4 := (blk_cell S4.out 4).trans rfl
    by_cases hr : r2 = 0 ∧ r1 = v
    · have HR := Aside0.mk hr
      obtain ⟨rfl, rfl⟩ := hr
      go_wp2_with (first | (refine wpList_store_row rfl 36 _ _ rfl g2 _ rfl rfl 36 _ S2.out (by as_aux_lemma => kernel_rfl) (by as_aux_lemma => kernel_rfl) (by as_aux_lemma => kernel_rfl) ?_))
      (try simp only [Exit.inBlock, Exit.then])
      refine bodyPost_ret (results_cell2 (p := 2) (q := 3) (ty := 36) rfl _ _ _ _ ⟨g2, 0, none⟩ _ _ (by rfl) (run_loadVar_row _ g2 36 36 _ (0, 0) _ (setRow_heap _ _ _ _ _ _ S2.out) Try.underlying36 (by rfl) (by kernel_rfl)) (by rfl)) rfl ?_
      exact ⟨⟨fun _ => rfl, fun h => absurd ⟨rfl, rfl⟩ h⟩, below_setRow BY.out HWG.out _⟩
    · have HR := Aside0.mk hr
      clear hr
      by_cases h2 : r2 = 0
      · have h1 : ¬ r1 = v := fun h => HR.out ⟨h2, h⟩
        subst h2
        go_wp2_with (first | (refine wpList_store_row rfl 36 _ _ rfl g2 _ rfl rfl 36 _ S2.out (by as_aux_lemma => kernel_rfl) (by as_aux_lemma => kernel_rfl) (by as_aux_lemma => kernel_rfl) ?_))
        (try simp only [Exit.inBlock, Exit.then])
        refine bodyPost_ret (results_cell2 (p := 2) (q := 3) (ty := 36) rfl _ _ _ _ ⟨g2, 0, none⟩ _ _ (by rfl) (run_loadVar_row _ g2 36 36 _ (0, 0) _ (setRow_heap _ _ _ _ _ _ S2.out) Try.underlying36 (by rfl) (by kernel_rfl)) (by rfl)) rfl ?_
        exact ⟨⟨fun h => absurd h.2 h1, fun _ => rfl⟩, below_setRow BY.out HWG.out _⟩
      · clear HE
        go_wp2_with (first | (refine wpList_store_row rfl 36 _ _ rfl g2 _ rfl rfl 36 _ S2.out (by as_aux_lemma => kernel_rfl) (by as_aux_lemma => kernel_rfl) (by as_aux_lemma => kernel_rfl) ?_))
        (try simp only [Exit.inBlock, Exit.then])
        refine bodyPost_ret (results_cell2 (p := 2) (q := 3) (ty := 36) rfl _ _ _ _ ⟨g2, 0, none⟩ _ _ (by rfl) (run_loadVar_row _ g2 36 36 _ (0, 0) _ (setRow_heap _ _ _ _ _ _ S2.out) Try.underlying36 (by rfl) (by kernel_rfl)) (by rfl)) rfl ?_
        exact ⟨⟨fun h => absurd h.1 h2, fun _ => rfl⟩, below_setRow BY.out HWG.out _⟩
set_option maxHeartbeats 4000000 in
set_option maxRecDepth 100000 in
theorem xdecode_0 (w : World) (v : Int) (hv : 0 ≤ v ∧ v < 4294967296) (hf : enc_Form.f 20 (v % 256) = some 0) :
    Calls Try.prog 8 #[.int .u32 v] w fun e w' => e = .returned (.tuple #[.agg #[.int .i64 0, .int .i64 0, .int .i64 0, .int .i64 0, .int .i64 0], .int .i64 200]) ∧ Below w.heap.size w w' := by
  have eA := and255 v hv.1 hv.2
  have w1 : IntKind.i64.wrap (v % 256) = v % 256 := IntWalk.i64_in _ (by omega)
  have HF := Aside0.mk (show mortiseref20_Form.f 20 (v % 256) = some 0 by rw [ref_form 20 (by decide) (v % 256) (by omega)]; exact hf)
  have BB := Aside0.mk (show Below w.heap.size w ((w.alloc (.cells #[.int .i64 0, .int .i64 0, .int .i64 0, .int .i64 0, .int .i64 0] 36)).alloc (.cells #[.int .i64 (v % 256), .int .i64 0, .int .i64 0, .int .i64 0, .int .i64 0] 36)) from below_alloc (below_alloc (Below.refl _ _) _) _)
  have R2 := Aside0.mk (show ((w.alloc (.cells #[.int .i64 0, .int .i64 0, .int .i64 0, .int .i64 0, .int .i64 0] 36)).alloc (.cells #[.int .i64 (v % 256), .int .i64 0, .int .i64 0, .int .i64 0, .int .i64 0] 36)).heap[w.heap.size]? = some (.cells #[.int .i64 0, .int .i64 0, .int .i64 0, .int .i64 0, .int .i64 0] 36 (0, 0)) from blk_alloc (heap_at _ _ _ rfl) _)
  have R4 := Aside0.mk (show ((w.alloc (.cells #[.int .i64 0, .int .i64 0, .int .i64 0, .int .i64 0, .int .i64 0] 36)).alloc (.cells #[.int .i64 (v % 256), .int .i64 0, .int .i64 0, .int .i64 0, .int .i64 0] 36)).heap[w.heap.size + 1]? = some (.cells #[.int .i64 (v % 256), .int .i64 0, .int .i64 0, .int .i64 0, .int .i64 0] 36 (0, 0)) from heap_at _ _ _ (by simp))
  clear hf hv
  go_enter Try.func8, Try.ntmps8
  go_upto_region 2 with (fail)
  generalize ((w.alloc (.cells #[.int .i64 0, .int .i64 0, .int .i64 0, .int .i64 0, .int .i64 0] 36)).alloc (.cells #[.int .i64 (v % 256), .int .i64 0, .int .i64 0, .int .i64 0, .int .i64 0] 36)) = W0 at BB R2 R4 ⊢
  generalize hg4 : w.heap.size + 1 = g4 at R4 ⊢
  generalize hg2 : w.heap.size = g2 at R2 ⊢
  have HG2 := Aside0.mk hg2
  clear hg2 hg4
  have c0 := (blk_cell R4.out 0).trans rfl
  go_upto_block 0 with (first | (go_at_call 18; refine (mortiseref20_Form.calls 20 (v % 256) 0 _ HF.out).mono ?_; rintro e Y ⟨rfl, hb7⟩; have HBY := Aside0.mk hb7; clear hb7))
  have S2 := Aside0.mk (blk_below R2.out HBY.out)
  have BY := Aside0.mk (pm_chain BB.out HBY.out)
  clear c0
  go_wp2_with (first | (refine wpList_store_row rfl 36 _ _ rfl g2 _ rfl rfl 36 _ S2.out (by as_aux_lemma => kernel_rfl) (by as_aux_lemma => kernel_rfl) (by as_aux_lemma => kernel_rfl) ?_))
  (try simp only [Exit.inBlock, Exit.then])
  refine bodyPost_ret (results_cell2 (p := 2) (q := 3) (ty := 36) rfl _ _ _ _ ⟨g2, 0, none⟩ _ _ (by rfl) (run_loadVar_row _ g2 36 36 _ (0, 0) _ (setRow_heap _ _ _ _ _ _ S2.out) Try.underlying36 (by rfl) (by kernel_rfl)) (by rfl)) rfl ?_
  exact ⟨rfl, below_setRow BY.out (by have := HG2.out; omega) _⟩
theorem xdec_go {w : World} {v a b d imm r1 : Int} {x : I5} (h : Calls Try.prog 8 #[.int .u32 v] w fun e w' => DecEnd v a b d imm r1 0 e ∧ Below w.heap.size w w') (hd : decF v = if r1 = v then some x else none) (hx : x.enc = .agg #[.int .i64 (v % 256), .int .i64 a, .int .i64 b, .int .i64 d, .int .i64 imm]) :
    Calls Try.prog 8 #[.int .u32 v] w fun e w' => e = .returned (.tuple #[match decF v with | none => .agg #[.int .i64 0, .int .i64 0, .int .i64 0, .int .i64 0, .int .i64 0] | some x => x.enc, .int .i64 (if (decF v).isSome then 0 else 200)]) ∧ Below w.heap.size w w' := by
  refine h.mono ?_
  rintro e w' ⟨h1, h2⟩
  refine ⟨?_, h2⟩
  by_cases he : r1 = v
  · rw [if_pos he] at hd
    rw [h1.1 ⟨rfl, he⟩, hd]
    simp [hx]
  · rw [if_neg he] at hd
    rw [h1.2 (fun q => he q.2), hd]
    rfl
theorem xdec_no {w : World} {v a b d imm : Int} (h : Calls Try.prog 8 #[.int .u32 v] w fun e w' => DecEnd v a b d imm 0 200 e ∧ Below w.heap.size w w') (hd : decF v = none) :
    Calls Try.prog 8 #[.int .u32 v] w fun e w' => e = .returned (.tuple #[match decF v with | none => .agg #[.int .i64 0, .int .i64 0, .int .i64 0, .int .i64 0, .int .i64 0] | some x => x.enc, .int .i64 (if (decF v).isSome then 0 else 200)]) ∧ Below w.heap.size w w' := by
  refine h.mono ?_
  rintro e w' ⟨h1, h2⟩
  refine ⟨?_, h2⟩
  rw [h1.2 (fun q => absurd q.1 (by decide)), hd]
  rfl
theorem xdec_all (w : World) (v : Int) (hv : 0 ≤ v ∧ v < 4294967296) : Calls Try.prog 8 #[.int .u32 v] w fun e w' => e = .returned (.tuple #[match decF v with | none => .agg #[.int .i64 0, .int .i64 0, .int .i64 0, .int .i64 0, .int .i64 0] | some x => x.enc, .int .i64 (if (decF v).isSome then 0 else 200)]) ∧ Below w.heap.size w w' := by
  have ea : ((v / 256 % 16).toNat : Int) = v / 256 % 16 := Int.toNat_of_nonneg (by omega)
  have eb : ((v / 4096 % 16).toNat : Int) = v / 4096 % 16 := Int.toNat_of_nonneg (by omega)
  have ed : ((v / 65536 % 16).toNat : Int) = v / 65536 % 16 := Int.toNat_of_nonneg (by omega)
  have w0 : -2147483648 ≤ wrap32 v ∧ wrap32 v ≤ 2147483647 := by unfold wrap32; omega
  have hop : 0 ≤ v % 256 ∧ v % 256 < 256 := by omega
  obtain h0 | ⟨h1, k1⟩ | ⟨h2, k2⟩ | ⟨h3, k3⟩ | ⟨h4, k4⟩ | ⟨h5, k5⟩ | ⟨h6, k6⟩ | ⟨h7, k7⟩ := form_cases (v % 256)
  · refine (xdecode_0 w v hv h0).mono ?_
    rintro e w' ⟨rfl, hb⟩
    rw [dec_is0 v h0]
    exact ⟨rfl, hb⟩
  · exact xdec_go (xdecode w v hv 1 h1 _ _ _ _ _ _ (.inr (.inr (.inr (.inl ⟨rfl, rfl, rfl, rfl, rfl⟩)))) (ref_enc 20 (by decide) (v % 256) (v / 256 % 16) (v / 4096 % 16) (v / 65536 % 16) 0 1 hop h1 ⟨by omega, by omega, by omega, by omega⟩)) (dec_is1 v hv h1) (by simp [I5.enc, ea, eb, ed])
  · exact xdec_go (xdecode w v hv 2 h2 _ _ _ _ _ _ (.inr (.inr (.inr (.inr ⟨.inl rfl, rfl, rfl, rfl, rfl⟩)))) (ref_enc 20 (by decide) (v % 256) (v / 256 % 16) (v / 4096 % 16) 0 (wrap32 v / 65536) 2 hop h2 ⟨by omega, by omega, by omega, by omega⟩)) (dec_is2 v hv h2) (by simp [I5.enc, ea, eb])
  · by_cases hb : v / 4096 % 16 = 0
    · exact xdec_go (xdecode w v hv 3 h3 _ _ _ _ _ _ (.inr (.inr (.inr (.inr ⟨.inr (.inl rfl), rfl, hb.symm, rfl, rfl⟩)))) (ref_enc 20 (by decide) (v % 256) (v / 256 % 16) 0 0 (wrap32 v / 65536) 3 hop h3 ⟨by omega, by omega, by omega, by omega⟩)) (dec_is3 v hv h3) (by simp [I5.enc, ea])
    · have s := encW_sum (v % 256) (v / 256 % 16) 0 (wrap32 v / 65536) hop (by omega) (by decide)
      exact xdec_no (xdecode w v hv 3 h3 _ _ _ _ _ _ (.inr (.inr (.inr (.inr ⟨.inr (.inl rfl), rfl, rfl, rfl, rfl⟩)))) (ref_enc_no 20 _ _ _ _ _ (ref_wrong_b 20 (by decide) (v % 256) (v / 256 % 16) (v / 4096 % 16) (wrap32 v / 65536) 3 hop h3 (by decide) (by omega) (by omega) hb))) (by rw [dec_is3 v hv h3, if_neg (ne_of_sum s (by omega))])
  · by_cases hb : v / 4096 % 16 = 0
    · exact xdec_go (xdecode w v hv 4 h4 _ _ _ _ _ _ (.inr (.inr (.inl ⟨rfl, rfl, hb.symm, rfl, rfl⟩))) (ref_enc 20 (by decide) (v % 256) (v / 256 % 16) 0 0 (v / 65536) 4 hop h4 ⟨by omega, by omega, by omega, by omega⟩)) (dec_is4 v hv h4) (by simp [I5.enc, ea])
    · have s := encW_sum (v % 256) (v / 256 % 16) 0 (v / 65536) hop (by omega) (by decide)
      exact xdec_no (xdecode w v hv 4 h4 _ _ _ _ _ _ (.inr (.inr (.inl ⟨rfl, rfl, rfl, rfl, rfl⟩))) (ref_enc_no 20 _ _ _ _ _ (ref_wrong_b 20 (by decide) (v % 256) (v / 256 % 16) (v / 4096 % 16) (v / 65536) 4 hop h4 (by decide) (by omega) (by omega) hb))) (by rw [dec_is4 v hv h4, if_neg (ne_of_sum s (by omega))])
  · exact xdec_go (xdecode w v hv 5 h5 _ _ _ _ _ _ (.inl ⟨rfl, rfl, rfl, rfl, rfl⟩) (ref_enc 20 (by decide) (v % 256) 0 0 0 (wrap32 v / 256) 5 hop h5 ⟨by omega, by omega, by omega, by omega⟩)) (dec_is5 v hv h5) (by simp [I5.enc])
  · by_cases hq : v / 256 % 4 = 0
    · exact xdec_go (xdecode w v hv 6 h6 _ _ _ _ _ _ (.inr (.inl ⟨rfl, rfl, rfl, rfl, rfl⟩)) (ref_enc 20 (by decide) (v % 256) 0 0 0 (v / 256) 6 hop h6 ⟨by omega, by omega, by omega, by omega⟩)) ((dec_is6 v hv h6).trans (if_neg (by omega))) (by simp [I5.enc])
    · exact xdec_no (xdecode w v hv 6 h6 _ _ _ _ _ _ (.inr (.inl ⟨rfl, rfl, rfl, rfl, rfl⟩)) (ref_enc_no 20 _ _ _ _ _ (ref_wrong6 20 (by decide) (v % 256) (v / 256) hop h6 ⟨by omega, by omega, hq⟩))) ((dec_is6 v hv h6).trans (if_pos hq))
  · by_cases hb : v / 4096 % 16 = 0
    · by_cases hi : wrap32 v / 65536 = 0
      · exact xdec_go (xdecode w v hv 7 h7 _ _ _ _ _ _ (.inr (.inr (.inr (.inr ⟨.inr (.inr rfl), rfl, hb.symm, rfl, hi.symm⟩)))) (ref_enc 20 (by decide) (v % 256) (v / 256 % 16) 0 0 0 7 hop h7 ⟨by omega, by omega, by omega, by omega⟩)) (dec_is7 v hv h7) (by simp [I5.enc, ea])
      · have s := encW_sum (v % 256) (v / 256 % 16) 0 0 hop (by omega) (by decide)
        have hx : v / 65536 ≠ 0 := by unfold wrap32 at hi; omega
        exact xdec_no (xdecode w v hv 7 h7 _ _ _ _ _ _ (.inr (.inr (.inr (.inr ⟨.inr (.inr rfl), rfl, hb.symm, rfl, rfl⟩)))) (ref_enc_no 20 _ _ _ _ _ (ref_wrong_7 20 (by decide) (v % 256) (v / 256 % 16) (wrap32 v / 65536) hop h7 (by omega) hi))) (by rw [dec_is7 v hv h7, if_neg (ne_of_sum s (by omega))])
    · have s := encW_sum (v % 256) (v / 256 % 16) 0 0 hop (by omega) (by decide)
      exact xdec_no (xdecode w v hv 7 h7 _ _ _ _ _ _ (.inr (.inr (.inr (.inr ⟨.inr (.inr rfl), rfl, rfl, rfl, rfl⟩)))) (ref_enc_no 20 _ _ _ _ _ (ref_wrong_b 20 (by decide) (v % 256) (v / 256 % 16) (v / 4096 % 16) (wrap32 v / 65536) 7 hop h7 (by decide) (by omega) (by omega) hb))) (by rw [dec_is7 v hv h7, if_neg (ne_of_sum s (by omega))])
end Go.Proofs.Ytejhnlljddjicaa.Ma
namespace Go.Proofs.Ytejhnlljddjicaa.Ma
open Go.RowKit Go.Proofs.Ytejhnlljddjicaa.PLk Go.Proofs.YtejhnlljddjicaaW.PrintWords Go.Proofs.YtejhnlljddjicaaW.PrintLast Go.Proofs.YtejhnlljddjicaaW.PrintMore Go.Proofs.Ytejhnlljddjicaa.La
set_option linter.unusedVariables false
set_option linter.unusedSimpArgs false
variable {fx : Value × Int} {w w' : World} {c pg : Nat} {ps ps' : Pages} {S S' : Cpu} {inp out inp' out' : List Int}
def xbinS (S : Cpu) (op : Int) (a : Nat) (x y : Int) : Cpu := if (binP op x y).2 then reckF S op a x y else { S with ended := 2, exit := 0 }
set_option maxHeartbeats 4000000 in
set_option maxRecDepth 100000 in
theorem xbin_calls (h : XM w c pg fx ps S inp out) (op : Int) (a : Nat) (ha : a < 16) (x y : Int) (hx : 0 ≤ x ∧ x < 4294967296) (hy : 0 ≤ y ∧ y < 4294967296) :
    Calls Try.prog 52 #[.pointer (some ⟨c, 0, none⟩), .int .i64 op, .int .i64 a, .int .u32 x, .int .u32 y] w fun e w' => e = .returned (.tuple #[]) ∧ XDid w w' c pg fx ps S ps (xbinS S op a x y) inp out := by
  obtain ⟨hf2, ⟨r, ok⟩, hf⟩ := bin_eq op x y hx.1 hx.2 hy.1 hy.2
  have hr := bin_in op x y hx.1 hx.2 hy.1 hy.2
  have hb : binP op x y = (r, ok) := by unfold binP; rw [hf]; rfl
  rw [hf] at hf2
  unfold xbinS reckF
  rw [hb] at hr ⊢
  simp only at hr ⊢
  have HF := Aside0.mk hf2
  have H := Aside0.mk h
  have HR := Aside0.mk hr
  have ha0 : (a : Int) < 16 := by omega
  obtain ⟨v, hv⟩ : ∃ v, S.regs[a]? = some v := ⟨_, List.getElem?_eq_getElem (by rw [h.nreg]; exact ha)⟩
  have k := h.kr hv
  have fz := h.fz (6 + a)
  clear h hf hf2 hb hr hx hy hv
  cases ok
  · go_enter Try.func52, Try.ntmps52
    go_wp2_with (first | (go_at_call 59; refine (mortiseref01_Bin.calls 30 _ _ _ _ _ _ HF.out).mono ?_; rintro e Y ⟨rfl, hb7⟩; have BB := Aside0.mk (dn0_below hb7); clear hb7) | (go_at_call 58; refine (xend_calls (H.out.below BB.out) 2 0).mono ?_; rintro e w' ⟨rfl, hd⟩; have D := Aside0.mk (XDid.pre BB.out hd); clear hd))
    (try simp only [Exit.inBlock, Exit.then])
    refine bodyPost_ret (results_none rfl _ _ _) rfl ?_
    exact ⟨rfl, D.out⟩
  · go_enter Try.func52, Try.ntmps52
    go_wp2_with (first | (go_at_call 59; refine (mortiseref01_Bin.calls 30 _ _ _ _ _ _ HF.out).mono ?_; rintro e Y ⟨rfl, hb7⟩; have BB := Aside0.mk (dn0_below hb7); have H2 := Aside0.mk (H.out.below BB.out); have k := pw_cell_below BB.out k; have fz := H2.out.fz (6 + a); clear hb7))
    go_end0
    exact ⟨rfl, XDid.pre BB.out (H2.out.set_reg a ha r HR.out.1 HR.out.2)⟩
theorem rvalue_mem (ps : Pages) (a : Nat) (n : Int) (sg : Bool) (hn : n = 1 ∨ n = 2 ∨ n = 4) : mortiseref01_Value.f 20 (memL ps a n.toNat) sg = some (wordF ps a n sg, 0) := by
  rcases hn with rfl | rfl | rfl
  · exact rvalue1 _ sg
  · exact rvalue2 _ _ sg
  · exact rvalue4 _ _ _ _ sg
theorem memL_snoc (ps : Pages) (a j : Nat) : memL ps a (j + 1) = memL ps a j ++ [byteAt ps (a + j)] := by
  unfold memL; rw [List.range_succ]; simp
set_option maxHeartbeats 4000000 in
set_option maxRecDepth 100000 in
theorem xread_yes (h : XM w c pg fx ps S inp out) (i n : Int) (sg : Bool) (hi : 0 ≤ i ∧ i < 4294967296) (hn : n = 1 ∨ n = 2 ∨ n = 4) (hm : mayF S.code i n false = 0) :
    Calls Try.prog 53 #[.pointer (some ⟨c, 0, none⟩), .int .u32 i, .int .i64 n, .bool sg] w fun e w' => e = .returned (.tuple #[.int .u32 (wordF ps i.toNat n sg), .bool true]) ∧ XDid w w' c pg fx ps S ps S inp out := by
  have HN := Aside0.mk hn
  have HI := Aside0.mk hi
  have H := Aside0.mk h
  have hrg : 4096 ≤ i ∧ i ≤ 8388608 - n := by
    unfold mayF at hm
    split at hm
    · cases hm
    · split at hm
      · cases hm
      · omega
  have HRG := Aside0.mk hrg
  have HM := Aside0.mk (show XM w c pg fx ps S inp out → Calls Try.prog 60 #[.pointer (some ⟨c, 0, none⟩), .int .u32 i, .int .i64 n, .bool false] w fun e w' => e = .returned (.bool true) ∧ XDid w w' c pg fx ps S ps S inp out from fun h => by
    have q := xmay_calls h i n false hi hn
    rw [hm] at q
    exact q)
  have hi64 : IntKind.i64.wrap i = i := IntWalk.i64_in _ (by omega)
  obtain ⟨N, hN⟩ : ∃ N : Nat, n = N := ⟨n.toNat, by omega⟩
  subst hN
  have HV := Aside0.mk (rvalue_mem ps i.toNat (N : Int) sg hn)
  rw [Int.toNat_natCast] at HV
  clear h hn hi hm hrg
  go_enter Try.func53, Try.ntmps53
  go_wp2_with (first | (go_at_call 60; refine (HM.out H.out).mono ?_; rintro e W1 ⟨rfl, hd⟩; have D := Aside0.mk hd; clear hd))
  go_loopg [10, 11] N (fun kq v10 v11 wr => ∃ j : Nat, j + kq = N ∧ v11 = .int .i64 (j : Int) ∧ Aside0 (Kd.R (Kd.int .u8) 5 wr W1.heap.size (fun _ => True) v10 (memL ps i.toNat j)) ∧ Aside0 (Below W1.heap.size W1 wr))
  case atStart => exact ⟨0, by omega, rfl, ⟨Kd.R_nil _ _ _ _ _⟩, ⟨Below.refl _ _⟩⟩
  case round =>
    obtain ⟨j, hj, rfl, HR, HB⟩ := hrel
    have HJ := Aside0.mk hj
    have HE := Aside0.mk (D.out.em.below HB.out)
    by_cases hlt : j < N
    · have HL := Aside0.mk hlt
      have hlt2 : (j : Int) < (N : Int) := by omega
      have hw1 : IntKind.i64.wrap ((j : Int) + 1) = ((j + 1 : Nat) : Int) := by rw [IntWalk.i64_in _ (by have := HN.out; omega)]; omega
      have hw2 : IntKind.i64.wrap (i + (j : Int)) = i + (j : Int) := IntWalk.i64_in _ (by have := HN.out; have := HI.out; omega)
      have HT := Aside0.mk (show (i + (j : Int)).toNat = i.toNat + j by have := HI.out; omega)
      have HS := Aside0.mk (memL_snoc ps i.toNat j)
      clear hj hlt
      go_wp2_with (first | (go_at_call 50; refine (xbyteAt_calls HE.out (i + (j : Int)) (by have := HRG.out; omega) (by have := HRG.out; have := HL.out; omega)).mono ?_; rintro e w' ⟨rfl, rfl⟩; rw [HT.out]; obtain ⟨b, hb⟩ : ∃ b, byteAt ps (i.toNat + j) = b := ⟨_, rfl⟩; rw [hb] at HS ⊢; clear hb) | ((with_reducible refine gate_builtin (b := .append) (xs := #[.tmp 24, .tmp 31]) rfl ?_); at_builtin; refine Kd.R_append (Kd.int .u8) (w0 := W1) W1.heap.size rfl (.tmp 24) (.tmp 31) 23 5 (.int .u8 0) 1 rfl Try.underlying23 inf5 rfl (by decide) (by omega) u10 (memL ps i.toNat j) b [.int .u8 b] (fun _ => True) (fun _ => False) rfl rfl ?aP (fun _ hk => hk.elim) ?aF ?aO ?aB ?aS ?aL ?_; (case aP => exact rfl); (case aB => exact (by (repeat (first | (with_reducible first | exact HB.out | apply below_alloc | apply pw_below_drewN | apply below_drew1) | exact HB.out)))); (case aF => exact (fun _ _ => trivial)); (case aO => exact (by (with_reducible repeat (first | apply Kd.R_alloc | apply Kd.R_drewN | apply Kd.R_drew)); exact HR.out)); (case aS => exact (below_size (by repeat (first | (with_reducible first | exact HB.out | apply below_alloc | apply pw_below_drewN | apply below_drew1) | exact HB.out)))); (case aL => (have := HN.out; have := HL.out; simp [memL]; omega)); intro v192 w12 ho hb2 hg hat; rw [← HS.out] at ho; have N0 := Aside0.mk hb2; have N1 := Aside0.mk ho; clear ho hb2 hg hat))
      go_roundg (N - (j + 1))
      case measure => have := HJ.out; have := HL.out; omega
      case rel => exact ⟨j + 1, by have := HJ.out; have := HL.out; omega, by simp, N1, N0⟩
    · have hjn : j = N := by omega
      have hlt2 : ¬ (j : Int) < (N : Int) := by omega
      subst hjn
      obtain ⟨A, k, rfl⟩ := Kd.R_slice HR.out
      have rd := Kd.R_reads' HR.out
      have RC := Aside0.mk (show Kd.C (Kd.int .u8) wr A (memL ps i.toNat j).length (memL ps i.toNat j) from rd.2.2)
      have RK := Aside0.mk rd.2.1
      clear hj hlt rd
      go_wp2_with (first | (go_at_call 7; refine (mortiseref01_Value.calls 20 A k (memL ps i.toNat j) sg _ _ _ RC.out RK.out HV.out).mono ?_; rintro e Y ⟨rfl, hb7⟩; have BB := Aside0.mk (dn0_below hb7); clear hb7))
      go_ret2
      exact ⟨rfl, D.out.then_below (pm_chain HB.out BB.out)⟩
set_option maxHeartbeats 4000000 in
set_option maxRecDepth 100000 in
theorem xread_no (h : XM w c pg fx ps S inp out) (i n : Int) (sg : Bool) (hi : 0 ≤ i ∧ i < 4294967296) (hn : n = 1 ∨ n = 2 ∨ n = 4) (hm : mayF S.code i n false ≠ 0) :
    Calls Try.prog 53 #[.pointer (some ⟨c, 0, none⟩), .int .u32 i, .int .i64 n, .bool sg] w fun e w' => e = .returned (.tuple #[.int .u32 0, .bool false]) ∧ XDid w w' c pg fx ps S ps { S with ended := 6, exit := mayF S.code i n false } inp out := by
  have HM := Aside0.mk (show Calls Try.prog 60 #[.pointer (some ⟨c, 0, none⟩), .int .u32 i, .int .i64 n, .bool false] w fun e w' => e = .returned (.bool false) ∧ XDid w w' c pg fx ps S ps { S with ended := 6, exit := mayF S.code i n false } inp out by
    have q := xmay_calls h i n false hi hn
    unfold mayS at q
    rw [if_neg hm, decide_eq_false hm] at q
    exact q)
  clear h hi hn hm
  go_enter Try.func53, Try.ntmps53
  go_wp2_with (first | (go_at_call 60; refine HM.out.mono ?_; rintro e W1 ⟨rfl, hd⟩; have D := Aside0.mk hd; clear hd))
  go_ret2
  exact ⟨rfl, D.out⟩
set_option maxHeartbeats 4000000 in
set_option maxRecDepth 100000 in
theorem xwrite_no (h : XM w c pg fx ps S inp out) (i n v : Int) (hi : 0 ≤ i ∧ i < 4294967296) (hn : n = 1 ∨ n = 2 ∨ n = 4) (hm : mayF S.code i n true ≠ 0) :
    Calls Try.prog 54 #[.pointer (some ⟨c, 0, none⟩), .int .u32 i, .int .i64 n, .int .u32 v] w fun e w' => e = .returned (.tuple #[]) ∧ XDid w w' c pg fx ps S ps { S with ended := 6, exit := mayF S.code i n true } inp out := by
  have HM := Aside0.mk (show Calls Try.prog 60 #[.pointer (some ⟨c, 0, none⟩), .int .u32 i, .int .i64 n, .bool true] w fun e w' => e = .returned (.bool false) ∧ XDid w w' c pg fx ps S ps { S with ended := 6, exit := mayF S.code i n true } inp out by
    have q := xmay_calls h i n true hi hn
    unfold mayS at q
    rw [if_neg hm, decide_eq_false hm] at q
    exact q)
  clear h hi hn hm
  go_enter Try.func54, Try.ntmps54
  go_wp2_with (first | (go_at_call 60; refine HM.out.mono ?_; rintro e W1 ⟨rfl, hd⟩; have D := Aside0.mk hd; clear hd))
  (try simp only [Exit.inBlock, Exit.then])
  refine bodyPost_ret (results_none rfl _ _ _) rfl ?_
  exact ⟨rfl, D.out⟩
set_option maxHeartbeats 4000000 in
set_option maxRecDepth 100000 in
theorem xwrite_yes (h : XM w c pg fx ps S inp out) (i n v : Int) (hi : 0 ≤ i ∧ i < 4294967296) (hn : n = 1 ∨ n = 2 ∨ n = 4) (hv : 0 ≤ v ∧ v < 4294967296) (hm : mayF S.code i n true = 0) :
    Calls Try.prog 54 #[.pointer (some ⟨c, 0, none⟩), .int .u32 i, .int .i64 n, .int .u32 v] w fun e w' => e = .returned (.tuple #[]) ∧ ∃ ps', XDid w w' c pg fx ps S ps' S inp out ∧ byteAt ps' = putF (byteAt ps) i.toNat n.toNat v := by
  have HN := Aside0.mk hn
  have HI := Aside0.mk hi
  have HVV := Aside0.mk hv
  have H := Aside0.mk h
  have hrg : 4096 ≤ i ∧ i ≤ 8388608 - n := by
    unfold mayF at hm
    split at hm
    · cases hm
    · split at hm
      · cases hm
      · omega
  have HRG := Aside0.mk hrg
  have HM := Aside0.mk (show XM w c pg fx ps S inp out → Calls Try.prog 60 #[.pointer (some ⟨c, 0, none⟩), .int .u32 i, .int .i64 n, .bool true] w fun e w' => e = .returned (.bool true) ∧ XDid w w' c pg fx ps S ps S inp out from fun h => by
    have q := xmay_calls h i n true hi hn
    rw [hm] at q
    exact q)
  have hi64 : IntKind.i64.wrap i = i := IntWalk.i64_in _ (by omega)
  obtain ⟨N, hN⟩ : ∃ N : Nat, n = N := ⟨n.toNat, by omega⟩
  subst hN
  rw [Int.toNat_natCast]
  clear h hn hi hm hrg hv
  go_enter Try.func54, Try.ntmps54
  go_wp2_with (first | (go_at_call 60; refine (HM.out H.out).mono ?_; rintro e W1 ⟨rfl, hd⟩; have D := Aside0.mk hd; clear hd))
  go_loopg [8] N (fun kq v8 wr => ∃ (j : Nat) (psj : Pages), j + kq = N ∧ v8 = .int .i64 (j : Int) ∧ Aside0 (XDid w wr c pg fx ps S psj S inp out) ∧ Aside0 (byteAt psj = putF (byteAt ps) i.toNat j v))
  case atStart => exact ⟨0, ps, by omega, rfl, ⟨D.out⟩, ⟨by funext q; unfold putF; rw [if_neg (by omega)]⟩⟩
  case round =>
    obtain ⟨j, psj, hj, rfl, HD, HP⟩ := hrel
    have HJ := Aside0.mk hj
    by_cases hlt : j < N
    · have HL := Aside0.mk hlt
      have hlt2 : (j : Int) < (N : Int) := by omega
      have hw1 : IntKind.i64.wrap ((j : Int) + 1) = ((j + 1 : Nat) : Int) := by rw [IntWalk.i64_in _ (by have := HN.out; omega)]; omega
      have hw2 : IntKind.i64.wrap (i + (j : Int)) = i + (j : Int) := IntWalk.i64_in _ (by have := HN.out; have := HI.out; omega)
      have hw3 : IntKind.i64.wrap (8 * (j : Int)) = 8 * (j : Int) := IntWalk.i64_in _ (by have := HN.out; omega)
      have hw4 : IntKind.u64.wrap (8 * (j : Int)) = 8 * (j : Int) := by rw [wrap_u64]; have := HN.out; omega
      have HT := Aside0.mk (show (i + (j : Int)).toNat = i.toNat + j by have := HI.out; omega)
      obtain ⟨b, hsh⟩ : ∃ b, v / 2 ^ min (8 * j) 32 = b := ⟨_, rfl⟩
      have HB := Aside0.mk (show v / 2 ^ (8 * j) = b by rw [← hsh, Nat.min_eq_left (by have := HN.out; omega)])
      have hj0 : 0 ≤ 8 * (j : Int) := by omega
      clear hj hlt
      go_wp2_with (first | (go_at_call 61; refine (xset_calls HD.out.em (i + (j : Int)) (by have := HRG.out; omega) (by have := HRG.out; have := HL.out; omega) (b % 256) (by omega)).mono ?_; rintro e Y ⟨rfl, ps2, hd2, hb2⟩; have D2 := Aside0.mk (HD.out.trans hd2); have E2 := Aside0.mk hb2; clear hd2 hb2))
      go_roundg (N - (j + 1))
      case measure => have := HJ.out; have := HL.out; omega
      case rel =>
        refine ⟨j + 1, ps2, by have := HJ.out; have := HL.out; omega, by simp, D2, ⟨?_⟩⟩
        funext q
        rw [E2.out, HT.out, HP.out, ← HB.out]
        exact (putF_next _ _ _ _ _).symm
    · have hjn : j = N := by omega
      have hlt2 : ¬ (j : Int) < (N : Int) := by omega
      subst hjn
      clear hj hlt
      go_wp2_with (fail)
      go_end0
      exact ⟨rfl, psj, HD.out, HP.out⟩
end Go.Proofs.Ytejhnlljddjicaa.Ma
namespace Go.Proofs.Ytejhnlljddjicaa.Ma
open Go.RowKit Go.Proofs.Ytejhnlljddjicaa.PLk Go.Proofs.YtejhnlljddjicaaW.PrintWords Go.Proofs.YtejhnlljddjicaaW.PrintLast Go.Proofs.YtejhnlljddjicaaW.PrintMore Go.Proofs.Ytejhnlljddjicaa.La
set_option linter.unusedVariables false
set_option linter.unusedSimpArgs false
variable {fx : Value × Int} {w w' : World} {c pg : Nat} {ps ps' : Pages} {S S' : Cpu} {inp out inp' out' : List Int}
theorem setRow_same {W : World} {g : Nat} {cs : Array Value} {ty : TypeId} {fr : Nat × Nat} (h : W.heap[g]? = some (.cells cs ty fr)) : W.setRow g cs = W := by
  obtain ⟨hg, he⟩ := Array.getElem?_eq_some_iff.1 h
  have e : (W.setRow g cs).heap = W.heap := by
    apply Array.ext_getElem?
    intro i
    by_cases e : i = g
    · subst e; rw [setRow_heap W _ _ cs ty fr h, h]
    · rw [setRow_other W g i cs e]
  show { W with heap := (W.setRow g cs).heap } = W
  rw [e]
/-- What the document's fetch answers. -/
def insV (o : Option I5) : Value := .tuple #[match o with | none => .agg #[.int .i64 0, .int .i64 0, .int .i64 0, .int .i64 0, .int .i64 0] | some x => x.enc, .bool o.isSome]
set_option maxHeartbeats 4000000 in
set_option maxRecDepth 100000 in
theorem xfetch_trap (h : XM w c pg fx ps S inp out) (hz : S.pc % 4 ≠ 0 ∨ S.pc < 4096 ∨ S.pc > 4096 + S.code - 4) :
    Calls Try.prog 40 #[.pointer (some ⟨c, 0, none⟩)] w fun e w' => e = .returned (insV none) ∧ XDid w w' c pg fx ps S ps { S with ended := 6, exit := 3 } inp out := by
  have HT := Aside0.mk (Int.tmod_eq_emod_of_nonneg (b := 4) h.pcIn.1)
  have H := Aside0.mk h
  have HP := Aside0.mk h.pcIn
  have HC := Aside0.mk h.codeIn
  have R2 := Aside0.mk (show (w.alloc (.cells #[.int .i64 0, .int .i64 0, .int .i64 0, .int .i64 0, .int .i64 0] 36 (0, 0))).heap[w.heap.size]? = some (.cells #[.int .i64 0, .int .i64 0, .int .i64 0, .int .i64 0, .int .i64 0] 36 (0, 0)) from heap_at _ _ _ rfl)
  have BB := Aside0.mk (show Below w.heap.size w (w.alloc (.cells #[.int .i64 0, .int .i64 0, .int .i64 0, .int .i64 0, .int .i64 0] 36 (0, 0))) from below_alloc (Below.refl _ _) _)
  have EW := Aside0.mk (h.below BB.out)
  have c5 := EW.out.kpc
  have c1 := EW.out.k1
  have HZ := Aside0.mk hz
  clear hz
  obtain ⟨pc, hpc⟩ : ∃ pc, S.pc = pc := ⟨_, rfl⟩
  obtain ⟨code, hco⟩ : ∃ code, S.code = code := ⟨_, rfl⟩
  rw [hpc] at HT HP HZ c5
  rw [hco] at HC HZ c1
  clear hpc hco
  clear h
  go_enter Try.func40, Try.ntmps40
  go_upto_region 1 with (fail)
  generalize (w.alloc (.cells #[.int .i64 0, .int .i64 0, .int .i64 0, .int .i64 0, .int .i64 0] 36 (0, 0))) = W0 at R2 BB EW c5 c1 ⊢
  generalize hg2 : w.heap.size = g2 at R2 ⊢
  have hm := HT.out
  have hz := HZ.out
  have hp0 := HP.out.1
  have hp1 := HP.out.2
  have hc0 := HC.out.1
  have hc1 := HC.out.2
  have q : pc % 4 ≠ 0 ∨ (pc % 4 = 0 ∧ pc < 4096) ∨ (pc % 4 = 0 ∧ ¬ pc < 4096 ∧ pc > 4096 + code - 4) := by omega
  clear hz
  rcases q with q | ⟨q1, q2⟩ | ⟨q1, q2, q3⟩
  all_goals (go_wp2_with (first | (go_at_call 49; refine (xtrap_calls EW.out 3).mono ?_; rintro e Y ⟨rfl, hd⟩; have D := Aside0.mk (XDid.pre BB.out hd); have R2 := Aside0.mk (hd.ext.at R2.out (fun hi => absurd (H.out.foot_lt _ hi) (by omega))); clear hd) | (refine wpList_store_row rfl 36 _ _ rfl g2 _ rfl rfl 36 _ R2.out (by as_aux_lemma => kernel_rfl) (by as_aux_lemma => kernel_rfl) (by as_aux_lemma => kernel_rfl) ?_)))
  all_goals (try simp only [Exit.inBlock, Exit.then])
  all_goals (
    rw [setRow_same R2.out]
    refine bodyPost_ret (results_cell2 (p := 2) (q := 3) (ty := 36) rfl _ _ _ _ ⟨g2, 0, none⟩ _ _ (by rfl) (run_loadVar_row _ g2 36 36 _ (0, 0) _ R2.out Try.underlying36 (by rfl) (by kernel_rfl)) (by rfl)) rfl ?_
    exact ⟨rfl, D.out⟩)
/-- The word of the bytes put together so far. -/
def accW (ps : Pages) (a : Nat) : Nat → Int
  | 0 => 0
  | j + 1 => bits .or .u32 (accW ps a j) (byteAt ps (a + j) % 4294967296 * 2 ^ (8 * j) % 4294967296)
theorem accW_four (ps : Pages) (a : Nat) : accW ps a 4 = wordF ps a 4 false := by
  unfold wordF lowv
  rw [if_neg (by decide), if_neg (by decide), if_pos rfl]
  unfold val4 val2 val1
  rw [shl32 _ 0 (by decide), shl32 _ 8 (by decide), shl32 _ 16 (by decide), shl32 _ 24 (by decide)]
  rfl
set_option maxHeartbeats 4000000 in
set_option maxRecDepth 100000 in
theorem xfetch_b (h : XM w c pg fx ps S inp out) (hz : ¬ (S.pc % 4 ≠ 0 ∨ S.pc < 4096 ∨ S.pc > 4096 + S.code - 4)) {o : Option I5} (ho : decF (wordF ps S.pc.toNat 4 false) = o) :
    Calls Try.prog 40 #[.pointer (some ⟨c, 0, none⟩)] w fun e w' => e = .returned (insV o) ∧ XDid w w' c pg fx ps S ps (if o.isSome then S else { S with ended := 6, exit := 3 }) inp out := by
  have HT := Aside0.mk (Int.tmod_eq_emod_of_nonneg (b := 4) h.pcIn.1)
  have H := Aside0.mk h
  have HP := Aside0.mk h.pcIn
  have HC := Aside0.mk h.codeIn
  have R2 := Aside0.mk (show (w.alloc (.cells #[.int .i64 0, .int .i64 0, .int .i64 0, .int .i64 0, .int .i64 0] 36 (0, 0))).heap[w.heap.size]? = some (.cells #[.int .i64 0, .int .i64 0, .int .i64 0, .int .i64 0, .int .i64 0] 36 (0, 0)) from heap_at _ _ _ rfl)
  have BB := Aside0.mk (show Below w.heap.size w (w.alloc (.cells #[.int .i64 0, .int .i64 0, .int .i64 0, .int .i64 0, .int .i64 0] 36 (0, 0))) from below_alloc (Below.refl _ _) _)
  have EW := Aside0.mk (h.below BB.out)
  have c5 := EW.out.kpc
  have c1 := EW.out.k1
  have HZ := Aside0.mk hz
  have HO := Aside0.mk ho
  clear hz ho
  obtain ⟨pc, hpc⟩ : ∃ pc, S.pc = pc := ⟨_, rfl⟩
  obtain ⟨code, hco⟩ : ∃ code, S.code = code := ⟨_, rfl⟩
  rw [hpc] at HT HP HZ HO c5
  rw [hco] at HC HZ c1
  clear hpc hco
  clear h
  go_enter Try.func40, Try.ntmps40
  go_upto_region 1 with (fail)
  generalize (w.alloc (.cells #[.int .i64 0, .int .i64 0, .int .i64 0, .int .i64 0, .int .i64 0] 36 (0, 0))) = W0 at R2 BB EW c5 c1 ⊢
  generalize hg2 : w.heap.size = g2 at R2 ⊢
  have hm := HT.out
  have hz := HZ.out
  have hp0 := HP.out.1
  have hp1 := HP.out.2
  have hc0 := HC.out.1
  have hc1 := HC.out.2
  have q1 : pc % 4 = 0 := by omega
  have q2 : ¬ pc < 4096 := by omega
  have q3 : ¬ pc > 4096 + code - 4 := by omega
  clear hz
  go_wp2_with (fail)
  have PC0 := Aside0.mk (show 4096 ≤ pc ∧ pc + 4 ≤ 8388608 by omega)
  clear q1 q2 q3 hm hp0 hp1 hc0 hc1 c5 c1
  go_loopg [5, 6] 4 (fun kq v5 v6 wr => ∃ (j : Nat), j + kq = 4 ∧ v5 = .int .u32 (accW ps pc.toNat j) ∧ v6 = .int .i64 (j : Int) ∧ Aside0 (Below W0.heap.size W0 wr))
  case atStart => exact ⟨0, by omega, rfl, rfl, ⟨Below.refl _ _⟩⟩
  case round =>
    obtain ⟨j, hj, rfl, rfl, HB⟩ := hrel
    have HJ := Aside0.mk hj
    have HE := Aside0.mk (EW.out.below HB.out)
    by_cases hlt : j < 4
    · have HL := Aside0.mk hlt
      have hlt2 : (j : Int) < 4 := by omega
      have hw1 : IntKind.i64.wrap ((j : Int) + 1) = ((j + 1 : Nat) : Int) := by rw [IntWalk.i64_in _ (by omega)]; omega
      have hw2 : IntKind.i64.wrap (pc + (j : Int)) = pc + (j : Int) := IntWalk.i64_in _ (by have := PC0.out; omega)
      have hw3 : IntKind.i64.wrap (8 * (j : Int)) = 8 * (j : Int) := IntWalk.i64_in _ (by omega)
      have hw4 : IntKind.u64.wrap (8 * (j : Int)) = 8 * (j : Int) := by rw [wrap_u64]; omega
      have HTN := Aside0.mk (show (pc + (j : Int)).toNat = pc.toNat + j by have := PC0.out; omega)
      clear hj hlt
      go_wp2_with (first | (go_at_call 50; refine (xbyteAt_calls HE.out (pc + (j : Int)) (by have := PC0.out; omega) (by have := PC0.out; have := HL.out; omega)).mono ?_; rintro e w' ⟨rfl, rfl⟩; rw [HTN.out]; obtain ⟨b, hb⟩ : ∃ b, byteAt ps (pc.toNat + j) = b := ⟨_, rfl⟩; have HBB := Aside0.mk hb; rw [hb]; clear hb; obtain ⟨acc, hac⟩ : ∃ acc, accW ps pc.toNat j = acc := ⟨_, rfl⟩; have HAC := Aside0.mk hac; rw [hac]; clear hac))
      go_roundg (4 - (j + 1))
      case measure => have := HL.out; have := HJ.out; omega
      case rel => exact ⟨j + 1, by have := HL.out; have := HJ.out; omega, by rw [← HAC.out, ← HBB.out]; rfl, by simp, HB⟩
    · have hjn : j = 4 := by omega
      subst hjn
      have hlt2 : ¬ ((4 : Nat) : Int) < 4 := by omega
      have hA4 := accW_four ps pc.toNat
      obtain ⟨v, hv⟩ : ∃ v, wordF ps pc.toNat 4 false = v := ⟨_, rfl⟩
      have HV := Aside0.mk (show 0 ≤ v ∧ v < 4294967296 by rw [← hv, ← hA4]; exact bits_range .or _ _ (.inr (.inl rfl)))
      have HDE := HO.out
      rw [hv] at hA4 HDE
      have HD := Aside0.mk HDE
      clear HDE hj hlt
      rw [hA4]
      clear hA4 hv
      have R2w := Aside0.mk (blk_below R2.out HB.out)
      have BW := Aside0.mk (pm_chain BB.out HB.out)
      cases o with
      | none =>
        have RDC := Aside0.mk (show ∀ W, Calls Try.prog 8 #[.int .u32 v] W fun e w' => e = .returned (.tuple #[.agg #[.int .i64 0, .int .i64 0, .int .i64 0, .int .i64 0, .int .i64 0], .int .i64 200]) ∧ Below W.heap.size W w' from fun W => by have q := xdec_all W v HV.out; rw [HD.out] at q; exact q)
        go_upto_region 11 with (first | (go_at_call 8; refine (RDC.out _).mono ?_; rintro e Z1 ⟨rfl, hb7⟩; have BZ := Aside0.mk hb7; clear hb7) | (refine wpList_store_row rfl 36 _ _ rfl Z1.heap.size _ rfl rfl 36 _ (heap_alloc_last Z1 _) (by as_aux_lemma => kernel_rfl) (by as_aux_lemma => kernel_rfl) (by as_aux_lemma => kernel_rfl) ?_; rw [World.setRow_alloc_new]))
        have R2z := Aside0.mk (blk_alloc (blk_below R2w.out BZ.out) (.cells #[.int .i64 0, .int .i64 0, .int .i64 0, .int .i64 0, .int .i64 0] 36))
        have BY := Aside0.mk (below_alloc (pm_chain BW.out BZ.out) (.cells #[.int .i64 0, .int .i64 0, .int .i64 0, .int .i64 0, .int .i64 0] 36))
        have EZ := Aside0.mk (H.out.below BY.out)
        generalize Z1.alloc (.cells #[.int .i64 0, .int .i64 0, .int .i64 0, .int .i64 0, .int .i64 0] 36) = Z2 at R2z BY EZ ⊢
        go_wp2_with (first | (go_at_call 49; refine (xtrap_calls EZ.out 3).mono ?_; rintro e Y ⟨rfl, hd⟩; have D := Aside0.mk (XDid.pre BY.out hd); have R2y := Aside0.mk (hd.ext.at R2z.out (fun hi => absurd (H.out.foot_lt _ hi) (by omega))); clear hd) | (refine wpList_store_row rfl 36 _ _ rfl g2 _ rfl rfl 36 _ R2y.out (by as_aux_lemma => kernel_rfl) (by as_aux_lemma => kernel_rfl) (by as_aux_lemma => kernel_rfl) ?_))
        (try simp only [Exit.inBlock, Exit.then])
        rw [setRow_same R2y.out]
        refine bodyPost_ret (results_cell2 (p := 2) (q := 3) (ty := 36) rfl _ _ _ _ ⟨g2, 0, none⟩ _ _ (by rfl) (run_loadVar_row _ g2 36 36 _ (0, 0) _ R2y.out Try.underlying36 (by rfl) (by kernel_rfl)) (by rfl)) rfl ?_
        exact ⟨rfl, D.out⟩
      | some x =>
        obtain ⟨op, a, b, d, imm⟩ := x
        have RDC := Aside0.mk (show ∀ W, Calls Try.prog 8 #[.int .u32 v] W fun e w' => e = .returned (.tuple #[.agg #[.int .i64 op, .int .i64 a, .int .i64 b, .int .i64 d, .int .i64 imm], .int .i64 0]) ∧ Below W.heap.size W w' from fun W => by have q := xdec_all W v HV.out; rw [HD.out] at q; exact q)
        go_upto_region 11 with (first | (go_at_call 8; refine (RDC.out _).mono ?_; rintro e Z1 ⟨rfl, hb7⟩; have BZ := Aside0.mk hb7; clear hb7) | (refine wpList_store_row rfl 36 _ _ rfl Z1.heap.size _ rfl rfl 36 _ (heap_alloc_last Z1 _) (by as_aux_lemma => kernel_rfl) (by as_aux_lemma => kernel_rfl) (by as_aux_lemma => kernel_rfl) ?_; rw [World.setRow_alloc_new]))
        have R7 := Aside0.mk (show (Z1.alloc (.cells #[.int .i64 op, .int .i64 a, .int .i64 b, .int .i64 d, .int .i64 imm] 36)).heap[Z1.heap.size]? = some (.cells #[.int .i64 op, .int .i64 a, .int .i64 b, .int .i64 d, .int .i64 imm] 36 (0, 0)) from heap_at _ _ _ rfl)
        have R2z := Aside0.mk (blk_alloc (blk_below R2w.out BZ.out) (.cells #[.int .i64 op, .int .i64 a, .int .i64 b, .int .i64 d, .int .i64 imm] 36))
        have BY := Aside0.mk (below_alloc (pm_chain BW.out BZ.out) (.cells #[.int .i64 op, .int .i64 a, .int .i64 b, .int .i64 d, .int .i64 imm] 36))
        generalize Z1.alloc (.cells #[.int .i64 op, .int .i64 a, .int .i64 b, .int .i64 d, .int .i64 imm] 36) = Z2 at R7 R2z BY ⊢
        generalize Z1.heap.size = g7 at R7 ⊢
        have d0 := (blk_cell R7.out 0).trans rfl
        have d1 := (blk_cell R7.out 1).trans rfl
        have d2 := (blk_cell R7.out 2).trans rfl
        have d3 := (blk_cell R7.out 3).trans rfl
        have d4 := (blk_cell R7.out 4).trans rfl
        go_wp2_with (first | (refine wpList_store_row rfl 36 _ _ rfl g2 _ rfl rfl 36 _ R2z.out (by as_aux_lemma => kernel_rfl) (by as_aux_lemma => kernel_rfl) (by as_aux_lemma => kernel_rfl) ?_))
        (try simp only [Exit.inBlock, Exit.then])
        refine bodyPost_ret (results_cell2 (p := 2) (q := 3) (ty := 36) rfl _ _ _ _ ⟨g2, 0, none⟩ _ _ (by rfl) (run_loadVar_row _ g2 36 36 _ (0, 0) _ (setRow_heap _ _ _ _ _ _ R2z.out) Try.underlying36 (by rfl) (by kernel_rfl)) (by rfl)) rfl ?_
        subst hg2
        exact ⟨rfl, XDid.same H.out (below_setRow BY.out (Nat.le_refl _) _)⟩
end Go.Proofs.Ytejhnlljddjicaa.Ma
