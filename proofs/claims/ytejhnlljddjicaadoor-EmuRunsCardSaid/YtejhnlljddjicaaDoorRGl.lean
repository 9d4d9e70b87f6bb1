/- An append of bytes in a region that draws, a struct of four cells that is stored. No condition beyond those each theorem names. And more of the kind: 3 texts in one. -/
import Derived.Test.YtejhnlljddjicaaDoorRGk
import Derived.Test.YtejhnlljddjicaaDoorRGc
import Derived.Deep.RegionLaw
namespace Go.Proofs.YtejhnlljddjicaaDoor.Ma
open Go.RowKit Go.Proofs.YtejhnlljddjicaaDoor.PEm Go.Proofs.YtejhnlljddjicaaDoorW.PrintWords Go.Proofs.YtejhnlljddjicaaDoorW.PrintLast Go.Proofs.YtejhnlljddjicaaDoorW.PrintMore Go.Proofs.YtejhnlljddjicaaDoor.La Go.Proofs.YtejhnlljddjicaaDoor.Ea
set_option linter.unusedVariables false
set_option linter.unusedSimpArgs false
variable {w w' : World} {c pg : Nat} {ps ps' : Pages} {S S' : Cpu} {inp out inp' out' : List Int}
theorem R_empty (W : World) {base : Nat} (hb : base ≤ W.heap.size) : Kd.R (Kd.int .u8) 5 (W.alloc (.cells #[] 5)) base (fun _ => True) (.slice (some ⟨W.heap.size, 0, none⟩) 0 0) [] :=
  ⟨fun _ _ => trivial, [], World.ownsRow_lit (base := base) (e := 5) (size := (Kd.int .u8).sz) W #[] 0 hb (Nat.zero_le _) rfl, Reps.none _ _⟩
theorem bytes_M {W : World} {base : Nat} {x : Int} {cs : List Value} (h : (Kd.int .u8).K W x cs) : (Kd.int .u8).M W base (fun _ => False) x cs := h
section
variable {ops : Array Oper} {o : Oper} {a : Act} {Kc : Act → World → Prop} {Q : Exit → Act → World → Prop}
/-- An append of bytes, at a step of a region that draws. -/
theorem app_step {w0 W : World} {v : Value} (hw : Region.wanted o (yielded ops a.tmps) = true) (s x : Operand) (ho : o.op = .call { callee := .builtin .append, args := #[s, x], argTypes := #[22, 22] })
    (xs ys zs : List Int) (hz : xs ++ ys = zs) (A : Option Addr) (m c : Nat) (HO : Kd.R (Kd.int .u8) 5 W w0.heap.size (fun _ => True) v xs) (HR : Kd.C (Kd.int .u8) w0 A m ys) (HB : Below w0.heap.size w0 W) (hl : xs.length + m ≤ 140737488355328)
    (hs : a.eval s = v) (hx : a.eval x = .slice A m c)
    (h : ∀ A1 c1 w1, Kd.R (Kd.int .u8) 5 w1 w0.heap.size (fun _ => True) (.slice A1 zs.length c1) zs → Below w0.heap.size w0 w1 → (∀ g b, W.heap[g]? = some b → some g ≠ v.ownBlock → w1.heap[g]? = some b ∧ some g ≠ (Value.slice A1 zs.length c1).ownBlock) → Kc (a.put o.dst (.slice A1 zs.length c1)) w1) :
    if Region.wanted o (yielded ops a.tmps) = true then Oper.wp Tryd.prog o a W Kc Q else Kc (a.put o.dst undef) W := by
  subst hz
  refine Kd.R_append_rows_step (P := Tryd.prog) (Kd.int .u8) (Rr := (Kd.int .u8).K W) (w0 := w0) w0.heap.size hw s x 22 5 (.int .u8 0) 1 ho Tryd.underlying22 inf5 rfl (by decide) (by decide) v xs ys A m c (fun _ => True) (fun _ => False) hs hx HO (Kd.C_below HR HB) (fun _ _ hk => bytes_M hk) (fun _ hk => hk.elim) (fun _ _ => trivial) HB HB.size (by rw [Nat.mul_one]; exact hl) ?_
  intro v1 w1 hR hB hG hat
  obtain ⟨A1, c1, rfl⟩ := Kd.R_slice hR
  refine h A1 c1 w1 hR hB (fun g b hg hne => ⟨(hG.block g (lt_of_at hg) hne).trans hg, fun e => ?_⟩)
  rcases hat with e1 | ⟨b1, e1, hb⟩
  · exact hne (e.trans e1)
  · have := lt_of_at hg
    rw [e1] at e
    injection e with e
    omega
end
section
variable {ops : Array Oper} {rest : List Oper} {o : Oper} {a : Act} {Q : Exit → Act → World → Prop}
/-- An append of bytes to an empty row, in a region of the text's order. -/
theorem app_plain {W : World} (hgd : o.guard = none) (s x : Operand) (ho : o.op = .call { callee := .builtin .append, args := #[s, x], argTypes := #[22, 22] })
    (ys : List Int) (A : Option Addr) (m c : Nat) (HR : Kd.C (Kd.int .u8) W A m ys) (hl : m ≤ 140737488355328)
    (hs : a.eval s = .slice (some ⟨W.heap.size, 0, none⟩) 0 0) (hx : a.eval x = .slice A m c)
    (h : ∀ A1 c1 w1, Kd.R (Kd.int .u8) 5 w1 W.heap.size (fun _ => True) (.slice A1 ys.length c1) ys → Below W.heap.size W w1 → wpList Tryd.prog ops Q rest (a.put o.dst (.slice A1 ys.length c1)) w1) :
    wpList Tryd.prog ops Q (o :: rest) a (W.alloc (.cells #[] 5)) := by
  have HB : Below W.heap.size W (W.alloc (.cells #[] 5)) := below_alloc (Below.refl _ _) _
  refine Kd.R_append_rows (P := Tryd.prog) (Kd.int .u8) (Rr := (Kd.int .u8).K (W.alloc (.cells #[] 5))) (w0 := W) W.heap.size hgd s x 22 5 (.int .u8 0) 1 ho Tryd.underlying22 inf5 rfl (by decide) (by decide) _ [] ys A m c (fun _ => True) (fun _ => False) hs hx ⟨fun _ _ => trivial, [], World.ownsRow_lit (base := W.heap.size) (e := 5) (size := (Kd.int .u8).sz) W #[] 0 (Nat.le_refl _) (Nat.zero_le _) rfl, Reps.none _ _⟩ (Kd.C_below HR HB) (fun _ _ hk => bytes_M hk) (fun _ hk => hk.elim) (fun _ _ => trivial) HB HB.size (by simp; omega) ?_
  intro v1 w1 hR hB hG hat
  obtain ⟨A1, c1, rfl⟩ := Kd.R_slice hR
  exact h A1 c1 w1 hR hB
end
theorem R_setcell {W : World} {base g : Nat} {v : Value} {xs : List Int} (hV : Kd.R (Kd.int .u8) 5 W base (fun _ => True) v xs) (hg : g < base) (i : Nat) (u : Value) : Kd.R (Kd.int .u8) 5 (W.setCell ⟨g, i, none⟩ u) base (fun _ => True) v xs :=
  Kd.R_mono (Kd.R_far (p := ⟨g, i, none⟩) (Kd.R_tight rfl hV) (fun q hq e => by have h1 := Kd.R_base hV q hq.symm; rw [e] at h1; exact absurd h1 (by show ¬ base ≤ g; omega)) u) (fun _ _ => trivial)
end Go.Proofs.YtejhnlljddjicaaDoor.Ma
namespace Go.Proofs.YtejhnlljddjicaaDoor.Ma
open Go.RowKit Go.Proofs.YtejhnlljddjicaaDoor.PEm Go.Proofs.YtejhnlljddjicaaDoorW.PrintWords Go.Proofs.YtejhnlljddjicaaDoorW.PrintLast Go.Proofs.YtejhnlljddjicaaDoorW.PrintMore
set_option linter.unusedVariables false
set_option linter.unusedSimpArgs false
variable {fx : Value × Int} {w w' : World} {c pg : Nat} {ps ps' : Pages} {S S' : Cpu} {inp out inp' out' : List Int}
/-- The cells of the document's machine. fx: the image's bytes and entry. -/
def xRow (pg : Nat) (fx : Value × Int) (S : Cpu) : List Value :=
  [fx.1, .int .i64 S.code, .int .i64 fx.2, S.inV, .slice (some ⟨pg, 0, none⟩) 2048 2048, .int .u32 S.pc] ++ (S.regs.map (.int .u32 ·) ++ [.int .i64 S.steps, S.outV, .int .i64 S.ended, .int .i64 S.exit])
structure XM (w : World) (c pg : Nat) (fx : Value × Int) (ps : Pages) (S : Cpu) (inp out : List Int) : Prop where
  head : w.heap[c]? = some (.cells (xRow pg fx S).toArray 62 (0, 0))
  nreg : S.regs.length = 16
  regIn : ∀ v ∈ S.regs, 0 ≤ v ∧ v < 4294967296
  pcIn : 0 ≤ S.pc ∧ S.pc < 4294967296
  codeIn : 4 ≤ S.code ∧ S.code ≤ 1048576
  pages : w.heap[pg]? = some (.cells (ps.map pgVal).toArray 22 (0, 0))
  npg : ps.length = 2048
  page : ∀ g bs, some (g, bs) ∈ ps → w.heap[g]? = some (.cells (byteRow bs) 5 (0, 0)) ∧ bs.length = 4096 ∧ ∀ b ∈ bs, 0 ≤ b ∧ b < 256
  nodup : (foot c pg ps S).Nodup
  inS : ∃ A cap, S.inV = .slice A inp.length cap ∧ inp.length ≤ cap ∧ Kd.C (Kd.int .u8) w A inp.length inp ∧ ∀ ad, A = some ad → 0 < inp.length → ad.block ∉ foot c pg ps S ∧ ad.block < w.heap.size
  outS : ∃ base, Kd.R (Kd.int .u8) 5 w base (fun _ => True) S.outV out
theorem xcpu_cell {g pg : Nat} {S : Cpu} (h : w.heap[g]? = some (.cells (xRow pg fx S).toArray 62 (0, 0))) (i : Nat) : w.cell? ⟨g, i, none⟩ = (xRow pg fx S)[i]? := by
  rw [blk_cell h, List.getElem?_toArray]
theorem xcpu_froz {g pg : Nat} {S : Cpu} (h : w.heap[g]? = some (.cells (xRow pg fx S).toArray 62 (0, 0))) (i : Nat) : w.frozen? ⟨g, i, none⟩ = false := blk_frozen h i
theorem xcpu_at (hn : S.regs.length = 16) (i : Nat) : (xRow pg fx S)[i]? = if i = 0 then some fx.1 else if i = 1 then some (.int .i64 S.code) else if i = 2 then some (.int .i64 fx.2) else if i = 3 then some S.inV else if i = 4 then some (.slice (some ⟨pg, 0, none⟩) 2048 2048) else if i = 5 then some (.int .u32 S.pc)
    else if i < 22 then (S.regs[i - 6]?).map (.int .u32 ·) else if i = 22 then some (.int .i64 S.steps) else if i = 23 then some S.outV else if i = 24 then some (.int .i64 S.ended) else if i = 25 then some (.int .i64 S.exit) else none := by
  unfold xRow
  by_cases h0 : i < 6
  · rw [List.getElem?_append_left (by simpa using h0)]
    rcases (by omega : i = 0 ∨ i = 1 ∨ i = 2 ∨ i = 3 ∨ i = 4 ∨ i = 5) with rfl | rfl | rfl | rfl | rfl | rfl <;> rfl
  · rw [List.getElem?_append_right (by simp; omega), if_neg (by omega), if_neg (by omega), if_neg (by omega), if_neg (by omega), if_neg (by omega), if_neg (by omega)]
    simp only [List.length_cons, List.length_nil]
    by_cases h1 : i < 22
    · rw [if_pos h1, List.getElem?_append_left (by simp; omega), List.getElem?_map]
    · rw [if_neg h1, List.getElem?_append_right (by simp; omega)]
      simp only [List.length_map, hn]
      by_cases h2 : i < 26
      · rcases (by omega : i = 22 ∨ i = 23 ∨ i = 24 ∨ i = 25) with rfl | rfl | rfl | rfl <;> rfl
      · rw [List.getElem?_eq_none (by simp; omega), if_neg (by omega), if_neg (by omega), if_neg (by omega), if_neg (by omega)]
theorem XM.foot_lt (h : XM w c pg fx ps S inp out) : ∀ i ∈ foot c pg ps S, i < w.heap.size := by
  intro i hi
  simp only [foot, List.mem_cons, List.mem_append, blocks, List.mem_filterMap] at hi
  rcases hi with rfl | rfl | ⟨p, hp, e⟩ | hi
  · exact lt_of_at h.head
  · exact lt_of_at h.pages
  · cases p with
    | none => cases e
    | some q =>
      obtain ⟨g, bs⟩ := q
      simp only [Option.map_some, Option.some.injEq] at e
      subst e
      exact lt_of_at (h.page g bs hp).1
  · obtain ⟨base, hR⟩ := h.outS
    exact Kd.R_lt hR i (by simpa using hi)
/-- What a machine keeps when nothing of it is written. -/
theorem XM.ext {F : Nat → Prop} (h : XM w c pg fx ps S inp out) (k : Ext F w w') (hF : ∀ i ∈ foot c pg ps S, ¬ F i) (hI : ∀ A n cp ad, S.inV = .slice A n cp → A = some ad → ¬ F ad.block) : XM w' c pg fx ps S inp out := by
  have hc : c ∈ foot c pg ps S := by simp [foot]
  have hp : pg ∈ foot c pg ps S := by simp [foot]
  refine ⟨k.at h.head (hF c hc), h.nreg, h.regIn, h.pcIn, h.codeIn, k.at h.pages (hF pg hp), h.npg, ?_, h.nodup, ?_, ?_⟩
  · intro g bs hm
    obtain ⟨h1, h2⟩ := h.page g bs hm
    refine ⟨k.at h1 (hF g ?_), h2⟩
    simp only [foot, List.mem_cons, List.mem_append, blocks, List.mem_filterMap]
    exact .inr (.inr (.inl ⟨_, hm, rfl⟩))
  · obtain ⟨A, cap, e, hl, hC, hA⟩ := h.inS
    refine ⟨A, cap, e, hl, ?_, fun ad ha h0 => ⟨(hA ad ha h0).1, Nat.lt_of_lt_of_le (hA ad ha h0).2 k.size⟩⟩
    refine ⟨hC.1, hC.2.1, fun h0 => ?_⟩
    obtain ⟨ad, ha, hx⟩ := hC.2.2 h0
    refine ⟨ad, ha, fun j p hj => ?_⟩
    obtain ⟨cs, h1, h2, h3⟩ := hx j p hj
    refine ⟨cs, h1, h2, fun q u hq => ?_⟩
    have hb := k.block ad.block (hA ad ha h0).2 (hI A _ _ ad e ha)
    have := h3 q u hq
    have hbl : (ad.add (j * (Kd.int .u8).sz + q)).block = ad.block := by unfold Addr.add; split <;> rfl
    unfold World.cell? at this ⊢
    rw [hbl] at this ⊢
    rw [hb]; exact this
  · obtain ⟨base, hR⟩ := h.outS
    refine ⟨base, Kd.R_mono (Kd.R_step (Kd.R_mono (Kd.R_tight rfl hR) (fun k hk => hk)) (fun j hj hlt => k.block j hlt (hF j ?_))) (fun _ _ => trivial)⟩
    simp only [foot, List.mem_cons, List.mem_append]
    exact .inr (.inr (.inr (by simp [← hj])))
theorem XM.k1 (h : XM w c pg fx ps S inp out) : w.cell? ⟨c, 1, none⟩ = some (.int .i64 S.code) := by rw [xcpu_cell h.head, xcpu_at h.nreg]; rfl
theorem XM.kin (h : XM w c pg fx ps S inp out) : w.cell? ⟨c, 3, none⟩ = some (S.inV) := by rw [xcpu_cell h.head, xcpu_at h.nreg]; rfl
theorem XM.kpg (h : XM w c pg fx ps S inp out) : w.cell? ⟨c, 4, none⟩ = some (.slice (some ⟨pg, 0, none⟩) 2048 2048) := by rw [xcpu_cell h.head, xcpu_at h.nreg]; rfl
theorem XM.kpc (h : XM w c pg fx ps S inp out) : w.cell? ⟨c, 5, none⟩ = some (.int .u32 S.pc) := by rw [xcpu_cell h.head, xcpu_at h.nreg]; rfl
theorem XM.kst (h : XM w c pg fx ps S inp out) : w.cell? ⟨c, 22, none⟩ = some (.int .i64 S.steps) := by rw [xcpu_cell h.head, xcpu_at h.nreg]; rfl
theorem XM.kout (h : XM w c pg fx ps S inp out) : w.cell? ⟨c, 23, none⟩ = some (S.outV) := by rw [xcpu_cell h.head, xcpu_at h.nreg]; rfl
theorem XM.kend (h : XM w c pg fx ps S inp out) : w.cell? ⟨c, 24, none⟩ = some (.int .i64 S.ended) := by rw [xcpu_cell h.head, xcpu_at h.nreg]; rfl
theorem XM.kex (h : XM w c pg fx ps S inp out) : w.cell? ⟨c, 25, none⟩ = some (.int .i64 S.exit) := by rw [xcpu_cell h.head, xcpu_at h.nreg]; rfl
theorem XM.kr (h : XM w c pg fx ps S inp out) {a : Nat} {v : Int} (hv : S.regs[a]? = some v) : w.cell? ⟨c, 6 + a, none⟩ = some (.int .u32 v) := by
  have : a < 16 := by rw [← h.nreg]; exact (List.getElem?_eq_some_iff.1 hv).1
  rw [xcpu_cell h.head, xcpu_at h.nreg, if_neg (by omega), if_neg (by omega), if_neg (by omega), if_neg (by omega), if_neg (by omega), if_neg (by omega), if_pos (by omega), show 6 + a - 6 = a by omega, hv]; rfl
theorem XM.fz (h : XM w c pg fx ps S inp out) (i : Nat) : w.frozen? ⟨c, i, none⟩ = false := xcpu_froz h.head i
/-- What a function does to a machine: it stays one; nothing else turns. -/
structure XDid (w w' : World) (c pg : Nat) (fx : Value × Int) (ps : Pages) (S : Cpu) (ps' : Pages) (S' : Cpu) (inp' out' : List Int) : Prop where
  em : XM w' c pg fx ps' S' inp' out'
  ext : Ext (fun i => i ∈ foot c pg ps S) w w'
  new : ∀ i ∈ foot c pg ps' S', i ∈ foot c pg ps S ∨ w.heap.size ≤ i
theorem XDid.same (h : XM w c pg fx ps S inp out) (k : Below w.heap.size w w') : XDid w w' c pg fx ps S ps S inp out :=
  ⟨h.ext (Ext.of_below (F := fun _ => False) k) (fun _ _ f => f) (fun _ _ _ _ _ _ f => f), Ext.of_below k, fun _ h => .inl h⟩
theorem XDid.trans {w1 w2 : World} {ps2 : Pages} {S2 : Cpu} {i2 o2 : List Int} (h : XDid w w1 c pg fx ps S ps' S' inp' out') (k : XDid w1 w2 c pg fx ps' S' ps2 S2 i2 o2) : XDid w w2 c pg fx ps S ps2 S2 i2 o2 :=
  ⟨k.em, h.ext.trans k.ext (fun i hi hg => (h.new i hg).elim id (fun h' => absurd hi (by omega))), fun i hi => (k.new i hi).elim (h.new i) (fun h' => .inr (Nat.le_trans h.ext.size h'))⟩
theorem XDid.pre {w1 : World} (k : Below w.heap.size w w1) (h : XDid w1 w' c pg fx ps S ps' S' inp' out') : XDid w w' c pg fx ps S ps' S' inp' out' :=
  ⟨h.em, (Ext.of_below (F := fun i => i ∈ foot c pg ps S) k).trans h.ext (fun _ _ h => h), fun i hi => (h.new i hi).imp id (fun h' => Nat.le_trans k.size h')⟩
theorem XDid.then_below {w2 : World} (h : XDid w w' c pg fx ps S ps' S' inp' out') (k : Below w'.heap.size w' w2) : XDid w w2 c pg fx ps S ps' S' inp' out' := h.trans (XDid.same h.em k)
theorem XM.below (h : XM w c pg fx ps S inp out) (k : Below w.heap.size w w') : XM w' c pg fx ps S inp out := (XDid.same h k).em
/-- One of the machine's own cells is written. -/
theorem XM.set (h : XM w c pg fx ps S inp out) (i : Nat) (u : Value) (e : (xRow pg fx S).set i u = xRow pg fx S') (hn : S'.regs.length = 16) (hr : ∀ v ∈ S'.regs, 0 ≤ v ∧ v < 4294967296) (hp : 0 ≤ S'.pc ∧ S'.pc < 4294967296)
    (hc : S'.code = S.code) (hi : S'.inV = S.inV) (ho : S'.outV = S.outV) : XDid w (w.setCell ⟨c, i, none⟩ u) c pg fx ps S ps S' inp out := by
  have hf : foot c pg ps S' = foot c pg ps S := by unfold foot; rw [ho]
  have hnd := h.nodup
  have xE : Ext (fun k => k = c) w (w.setCell ⟨c, i, none⟩ u) := Ext.setCell (F := fun k => k = c) (p := ⟨c, i, none⟩) (Ext.refl _ _) (Or.inl rfl) u
  have hnc : ∀ k ∈ pg :: (blocks ps ++ S.outV.ownBlock.toList), ¬ k = c := by
    intro k hk e
    unfold foot at hnd
    exact (List.nodup_cons.1 hnd).1 (e ▸ hk)
  refine ⟨⟨?_, hn, hr, hp, by rw [hc]; exact h.codeIn, xE.at h.pages (hnc pg (by simp)), h.npg, ?_, by rw [hf]; exact hnd, ?_, ?_⟩, xE.mono (fun k hk => by subst hk; simp [foot]), fun k hk => .inl (by rw [hf] at hk; exact hk)⟩
  · refine blk_put h.head i u ?_
    rw [← e]
    apply Array.ext'
    simp
  · intro g bs hm
    obtain ⟨h1, h2⟩ := h.page g bs hm
    refine ⟨xE.at h1 (hnc g ?_), h2⟩
    simp only [List.mem_cons, List.mem_append, blocks, List.mem_filterMap]
    exact .inr (.inl ⟨_, hm, rfl⟩)
  · obtain ⟨A, cap, e1, hl, hC, hA⟩ := h.inS
    refine ⟨A, cap, by rw [hi]; exact e1, hl, ?_, fun ad ha h0 => ⟨by rw [hf]; exact (hA ad ha h0).1, Nat.lt_of_lt_of_le (hA ad ha h0).2 xE.size⟩⟩
    refine ⟨hC.1, hC.2.1, fun h0 => ?_⟩
    obtain ⟨ad, ha, hx⟩ := hC.2.2 h0
    refine ⟨ad, ha, fun j p hj => ?_⟩
    obtain ⟨cs, h1, h2, h3⟩ := hx j p hj
    refine ⟨cs, h1, h2, fun q v hq => ?_⟩
    have hb := xE.block ad.block (hA ad ha h0).2 (fun e2 => (hA ad ha h0).1 (by rw [e2]; simp [foot]))
    have := h3 q v hq
    have hbl : (ad.add (j * (Kd.int .u8).sz + q)).block = ad.block := by unfold Addr.add; split <;> rfl
    unfold World.cell? at this ⊢
    rw [hbl] at this ⊢
    rw [hb]; exact this
  · obtain ⟨base, hR⟩ := h.outS
    rw [ho]
    refine ⟨base, Kd.R_mono (Kd.R_step (Kd.R_tight rfl hR) (fun j hj hlt => xE.block j hlt (hnc j ?_))) (fun _ _ => trivial)⟩
    simp only [List.mem_cons, List.mem_append]
    exact .inr (.inr (by simp [← hj]))
theorem xrow_pc (v : Int) : (xRow pg fx S).set 5 (.int .u32 v) = xRow pg fx { S with pc := v } := by simp [xRow]
theorem xrow_reg (hn : S.regs.length = 16) (a : Nat) (ha : a < 16) (v : Int) : (xRow pg fx S).set (6 + a) (.int .u32 v) = xRow pg fx { S with regs := S.regs.set a v } := by
  unfold xRow
  rw [List.set_append_right _ _ (by simp), List.set_append_left _ _ (by simp; omega)]
  simp [List.map_set, show 6 + a - 6 = a by omega]
theorem xrow_tail (hn : S.regs.length = 16) (k : Nat) (hk : k < 4) (u : Value) : (xRow pg fx S).set (22 + k) u = [fx.1, .int .i64 S.code, .int .i64 fx.2, S.inV, .slice (some ⟨pg, 0, none⟩) 2048 2048, .int .u32 S.pc] ++ (S.regs.map (.int .u32 ·) ++ ([.int .i64 S.steps, S.outV, .int .i64 S.ended, .int .i64 S.exit] : List Value).set k u) := by
  unfold xRow
  rw [List.set_append_right _ _ (by simp; omega), List.set_append_right _ _ (by simp; omega)]
  congr 3
  simp [hn]; omega
theorem XM.set_pc (h : XM w c pg fx ps S inp out) (v : Int) (h0 : 0 ≤ v) (h1 : v < 4294967296) : XDid w (w.setCell ⟨c, 5, none⟩ (.int .u32 v)) c pg fx ps S ps { S with pc := v } inp out :=
  h.set 5 _ (xrow_pc v) h.nreg h.regIn ⟨h0, h1⟩ rfl rfl rfl
theorem XM.set_reg (h : XM w c pg fx ps S inp out) (a : Nat) (ha : a < 16) (v : Int) (h0 : 0 ≤ v) (h1 : v < 4294967296) : XDid w (w.setCell ⟨c, 6 + a, none⟩ (.int .u32 v)) c pg fx ps S ps { S with regs := S.regs.set a v } inp out :=
  h.set (6 + a) _ (xrow_reg h.nreg a ha v) (by simp [h.nreg]) (fun x hx => (List.mem_or_eq_of_mem_set hx).elim (h.regIn x) (fun e => e ▸ ⟨h0, h1⟩)) h.pcIn rfl rfl rfl
theorem XM.set_steps (h : XM w c pg fx ps S inp out) (v : Int) : XDid w (w.setCell ⟨c, 22, none⟩ (.int .i64 v)) c pg fx ps S ps { S with steps := v } inp out :=
  h.set 22 _ ((xrow_tail h.nreg 0 (by omega) _).trans rfl) h.nreg h.regIn h.pcIn rfl rfl rfl
theorem XM.set_ended (h : XM w c pg fx ps S inp out) (v : Int) : XDid w (w.setCell ⟨c, 24, none⟩ (.int .i64 v)) c pg fx ps S ps { S with ended := v } inp out :=
  h.set 24 _ ((xrow_tail h.nreg 2 (by omega) _).trans rfl) h.nreg h.regIn h.pcIn rfl rfl rfl
theorem XM.set_exit (h : XM w c pg fx ps S inp out) (v : Int) : XDid w (w.setCell ⟨c, 25, none⟩ (.int .i64 v)) c pg fx ps S ps { S with exit := v } inp out :=
  h.set 25 _ ((xrow_tail h.nreg 3 (by omega) _).trans rfl) h.nreg h.regIn h.pcIn rfl rfl rfl
theorem XM.newpage (h : XM w c pg fx ps S inp out) (k : Nat) (hk : ps[k]? = some none) :
    XDid w ((w.alloc (.cells (byteRow zpage) 5)).setCell ⟨pg, k, none⟩ (.slice (some ⟨w.heap.size, 0, none⟩) 4096 4096)) c pg fx ps S (ps.set k (some (w.heap.size, zpage))) S inp out := by
  have hnd := h.nodup
  have hlt := h.foot_lt
  have xE : Ext (fun i => i = pg) w ((w.alloc (.cells (byteRow zpage) 5)).setCell ⟨pg, k, none⟩ (.slice (some ⟨w.heap.size, 0, none⟩) 4096 4096)) :=
    Ext.setCell (F := fun i => i = pg) (p := ⟨pg, k, none⟩) (Ext.of_below (below_alloc (Below.refl _ _) _)) (Or.inl rfl) _
  have hpg : pg < w.heap.size := lt_of_at h.pages
  have hnp : ∀ i ∈ c :: (blocks ps ++ S.outV.ownBlock.toList), ¬ i = pg := by
    intro i hi e
    subst e
    unfold foot at hnd
    rw [List.nodup_cons] at hnd
    rcases List.mem_cons.1 hi with e | e
    · exact hnd.1 (e ▸ List.mem_cons_self)
    · exact (List.nodup_cons.1 hnd.2).1 e
  have hperm : (foot c pg (ps.set k (some (w.heap.size, zpage))) S).Perm (w.heap.size :: foot c pg ps S) := by
    unfold foot
    have h1 := (blocks_set ps k w.heap.size zpage hk).append_right S.outV.ownBlock.toList
    exact ((h1.cons pg).cons c).trans ((List.Perm.cons c (List.Perm.swap _ _ _)).trans (List.Perm.swap _ _ _))
  refine ⟨⟨xE.at h.head (hnp c (by simp)), h.nreg, h.regIn, h.pcIn, h.codeIn, ?_, by simp [h.npg], ?_, ?_, ?_, ?_⟩, xE.mono (fun i hi => by subst hi; simp [foot]), fun i hi => ?_⟩
  · refine blk_put (blk_alloc h.pages _) k _ ?_
    apply Array.ext'
    simp [List.map_set, pgVal]
  · intro g bs hm
    rcases List.mem_or_eq_of_mem_set hm with hm | hm
    · obtain ⟨h1, h2⟩ := h.page g bs hm
      refine ⟨xE.at h1 (hnp g ?_), h2⟩
      simp only [List.mem_cons, List.mem_append, blocks, List.mem_filterMap]
      exact .inr (.inl ⟨_, hm, rfl⟩)
    · simp only [Option.some.injEq, Prod.mk.injEq] at hm
      obtain ⟨rfl, rfl⟩ := hm
      refine ⟨blk_far (heap_at _ _ _ rfl) (by simp; omega) _, by rw [zpage, List.length_replicate], ?_⟩
      intro b hb
      have := List.eq_of_mem_replicate hb
      omega
  · refine hperm.nodup_iff.2 (List.nodup_cons.2 ⟨fun hi => absurd (hlt _ hi) (by omega), hnd⟩)
  · obtain ⟨A, cap, e1, hl, hC, hA⟩ := h.inS
    refine ⟨A, cap, e1, hl, ?_, fun ad ha h0 => ⟨fun hi => ?_, Nat.lt_of_lt_of_le (hA ad ha h0).2 xE.size⟩⟩
    · refine ⟨hC.1, hC.2.1, fun h0 => ?_⟩
      obtain ⟨ad, ha, hx⟩ := hC.2.2 h0
      refine ⟨ad, ha, fun j p hj => ?_⟩
      obtain ⟨cs, h1, h2, h3⟩ := hx j p hj
      refine ⟨cs, h1, h2, fun q v hq => ?_⟩
      have hb := xE.block ad.block (hA ad ha h0).2 (fun e2 => (hA ad ha h0).1 (by rw [e2]; simp [foot]))
      have := h3 q v hq
      have hbl : (ad.add (j * (Kd.int .u8).sz + q)).block = ad.block := by unfold Addr.add; split <;> rfl
      unfold World.cell? at this ⊢
      rw [hbl] at this ⊢
      rw [hb]; exact this
    · rcases List.mem_cons.1 (hperm.mem_iff.1 hi) with e | e
      · have := (hA ad ha h0).2; omega
      · exact (hA ad ha h0).1 e
  · obtain ⟨base, hR⟩ := h.outS
    refine ⟨base, Kd.R_mono (Kd.R_step (Kd.R_tight rfl hR) (fun j hj hlt => xE.block j hlt (hnp j ?_))) (fun _ _ => trivial)⟩
    simp only [List.mem_cons, List.mem_append]
    exact .inr (.inr (by simp [← hj]))
  · rcases List.mem_cons.1 (hperm.mem_iff.1 hi) with e | e
    · exact .inr (by omega)
    · exact .inl e
theorem XM.pgcell (h : XM w c pg fx ps S inp out) (k : Nat) : w.cell? ⟨pg, k, none⟩ = (ps[k]?).map pgVal := by rw [blk_cell h.pages, List.getElem?_toArray, List.getElem?_map]
theorem XM.setbyte (h : XM w c pg fx ps S inp out) {k g : Nat} {bs : List Int} (hk : ps[k]? = some (some (g, bs))) (o : Nat) (ho : o < 4096) (b : Int) (hb : 0 ≤ b ∧ b < 256) :
    XDid w (w.setCell ⟨g, o, none⟩ (.int .u8 b)) c pg fx ps S (ps.set k (some (g, bs.set o b))) S inp out := by
  have hnd := h.nodup
  have hgb : g ∈ blocks ps := by unfold blocks; rw [List.mem_filterMap]; exact ⟨_, List.mem_of_getElem? hk, rfl⟩
  have hgf : g ∈ foot c pg ps S := by simp only [foot, List.mem_cons, List.mem_append]; exact .inr (.inr (.inl hgb))
  have xE : Ext (fun i => i = g) w (w.setCell ⟨g, o, none⟩ (.int .u8 b)) := Ext.setCell (F := fun i => i = g) (p := ⟨g, o, none⟩) (Ext.refl _ _) (Or.inl rfl) _
  have hf : foot c pg (ps.set k (some (g, bs.set o b))) S = foot c pg ps S := by unfold foot; rw [blocks_same hk]
  have hn1 := hnd
  unfold foot at hn1
  obtain ⟨a1, hn2⟩ := List.nodup_cons.1 hn1
  obtain ⟨a2, hn3⟩ := List.nodup_cons.1 hn2
  obtain ⟨a3, a4, a5⟩ := List.nodup_append.1 hn3
  obtain ⟨hg, hlen, hbs⟩ := h.page g bs (List.mem_of_getElem? hk)
  refine ⟨⟨xE.at h.head (fun e => a1 (e ▸ by simp [hgb])), h.nreg, h.regIn, h.pcIn, h.codeIn, ?_, by simp [h.npg], ?_, by rw [hf]; exact hnd, ?_, ?_⟩, xE.mono (fun i hi => by subst hi; exact hgf), fun i hi => .inl (by rw [hf] at hi; exact hi)⟩
  · rw [map_same pgVal ps k _ (some (g, bs.set o b)) hk rfl]
    exact xE.at h.pages (fun e => a2 (e ▸ by simp [hgb]))
  · intro g' bs' hm
    obtain ⟨i, hi⟩ := List.getElem?_of_mem hm
    by_cases e : k = i
    · subst e
      rw [List.getElem?_set_self (List.getElem?_eq_some_iff.1 hk).1] at hi
      simp only [Option.some.injEq, Prod.mk.injEq] at hi
      obtain ⟨rfl, rfl⟩ := hi
      refine ⟨blk_put hg o _ ?_, by simp [hlen], fun x hx => ?_⟩
      · apply Array.ext'
        simp [byteRow, List.map_set]
      · exact (List.mem_or_eq_of_mem_set hx).elim (hbs x) (fun e => e ▸ hb)
    · rw [List.getElem?_set_ne e] at hi
      have hne : g' ≠ g := fun e2 => e (blocks_inj ps a3 k i g bs bs' hk (e2 ▸ hi))
      obtain ⟨h1, h2⟩ := h.page g' bs' (List.mem_of_getElem? hi)
      exact ⟨xE.at h1 hne, h2⟩
  · obtain ⟨A, cap, e1, hl, hC, hA⟩ := h.inS
    refine ⟨A, cap, e1, hl, ?_, fun ad ha h0 => ⟨by rw [hf]; exact (hA ad ha h0).1, Nat.lt_of_lt_of_le (hA ad ha h0).2 xE.size⟩⟩
    refine ⟨hC.1, hC.2.1, fun h0 => ?_⟩
    obtain ⟨ad, ha, hx⟩ := hC.2.2 h0
    refine ⟨ad, ha, fun j p hj => ?_⟩
    obtain ⟨cs, h1, h2, h3⟩ := hx j p hj
    refine ⟨cs, h1, h2, fun q v hq => ?_⟩
    have hb := xE.block ad.block (hA ad ha h0).2 (fun e2 => (hA ad ha h0).1 (by rw [e2]; exact hgf))
    have := h3 q v hq
    have hbl : (ad.add (j * (Kd.int .u8).sz + q)).block = ad.block := by unfold Addr.add; split <;> rfl
    unfold World.cell? at this ⊢
    rw [hbl] at this ⊢
    rw [hb]; exact this
  · obtain ⟨base, hR⟩ := h.outS
    refine ⟨base, Kd.R_mono (Kd.R_step (Kd.R_tight rfl hR) (fun j hj hlt => xE.block j hlt (fun e2 => a5 g hgb j (by simp [← hj]) e2.symm))) (fun _ _ => trivial)⟩
/-- The machine's row of what was put out is turned: all else of it stands. -/
theorem XM.grown (h : XM w c pg fx ps S inp out) {base : Nat} {v1 : Value} {out1 : List Int} (hg : w.grownBy w' S.outV.ownBlock) (hR : Kd.R (Kd.int .u8) 5 w' base (fun _ => True) v1 out1) (hat : v1.ownBlock = S.outV.ownBlock ∨ ∃ b, v1.ownBlock = some b ∧ w.heap.size ≤ b) :
    XDid w (w'.setCell ⟨c, 23, none⟩ v1) c pg fx ps S ps { S with outV := v1 } inp out1 := by
  have hnd := h.nodup
  have xE := grown_ext hg
  have hn1 := hnd
  unfold foot at hn1
  obtain ⟨a1, hn2⟩ := List.nodup_cons.1 hn1
  obtain ⟨a2, hn3⟩ := List.nodup_cons.1 hn2
  obtain ⟨a3, a4, a5⟩ := List.nodup_append.1 hn3
  have hco : ¬ S.outV.ownBlock = some c := fun e => a1 (by simp [e])
  have hpo : ¬ S.outV.ownBlock = some pg := fun e => a2 (by simp [e])
  have hlt := h.foot_lt
  have xF : Ext (fun i => S.outV.ownBlock = some i ∨ i = c) w (w'.setCell ⟨c, 23, none⟩ v1) := Ext.setCell (F := fun i => S.outV.ownBlock = some i ∨ i = c) (p := ⟨c, 23, none⟩) (xE.mono (fun i hi => Or.inl hi)) (Or.inl (Or.inr rfl)) v1
  have hv1c : ¬ v1.ownBlock = some c := by
    intro e
    rcases hat with h1 | ⟨b, h1, h2⟩
    · exact hco (h1 ▸ e)
    · rw [e] at h1; injection h1 with h1; have := lt_of_at h.head; omega
  have hnew : ∀ i, v1.ownBlock = some i → S.outV.ownBlock = some i ∨ w.heap.size ≤ i := by
    intro i e
    rcases hat with h1 | ⟨b, h1, h2⟩
    · exact .inl (h1 ▸ e)
    · rw [e] at h1; injection h1 with h1; exact .inr (by omega)
  refine ⟨⟨?_, h.nreg, h.regIn, h.pcIn, h.codeIn, xF.at h.pages (fun e => e.elim hpo (fun e => a1 (by simp [← e]))), h.npg, ?_, ?_, ?_, ?_⟩, xF.mono (fun i hi => by rcases hi with hi | rfl <;> simp [foot, *]), ?_⟩
  · have hh := xE.at h.head hco
    refine blk_put hh 23 v1 ?_
    obtain ⟨r0, r1, r2, r3, r4, r5, r6, r7, r8, r9, r10, r11, r12, r13, r14, r15, e⟩ := regs16 h.nreg
    simp [xRow, e]
  · intro g bs hm
    obtain ⟨h1, h2⟩ := h.page g bs hm
    have hgb : g ∈ blocks ps := by unfold blocks; rw [List.mem_filterMap]; exact ⟨_, hm, rfl⟩
    refine ⟨xF.at h1 (fun e => e.elim (fun e => a5 g hgb g (by simp [e]) rfl) (fun e => a1 (by simp [← e, hgb]))), h2⟩
  · unfold foot
    refine List.nodup_cons.2 ⟨?_, List.nodup_cons.2 ⟨?_, List.nodup_append.2 ⟨a3, ?_, ?_⟩⟩⟩
    · intro hm
      simp only [List.mem_cons, List.mem_append, Option.mem_toList, Option.mem_def] at hm
      rcases hm with hm | hm | hm
      · exact a1 (by simp [hm])
      · exact a1 (by simp [hm])
      · exact hv1c hm
    · intro hm
      simp only [List.mem_append, Option.mem_toList, Option.mem_def] at hm
      rcases hm with hm | hm
      · exact a2 (by simp [hm])
      · exact (hnew pg hm).elim hpo (fun h' => absurd (lt_of_at h.pages) (by omega))
    · cases v1.ownBlock <;> simp
    · intro x hx y hy e
      subst e
      simp only [Option.mem_toList, Option.mem_def] at hy
      exact (hnew x hy).elim (fun h' => a5 x hx x (by simp [h']) rfl) (fun h' => absurd (hlt x (by simp [foot, hx])) (by omega))
  · obtain ⟨A, cap, e1, hl, hC, hA⟩ := h.inS
    refine ⟨A, cap, e1, hl, ?_, fun ad ha h0 => ⟨fun hm => ?_, Nat.lt_of_lt_of_le (hA ad ha h0).2 xF.size⟩⟩
    · refine ⟨hC.1, hC.2.1, fun h0 => ?_⟩
      obtain ⟨ad, ha, hx⟩ := hC.2.2 h0
      refine ⟨ad, ha, fun j p hj => ?_⟩
      obtain ⟨cs, h1, h2, h3⟩ := hx j p hj
      refine ⟨cs, h1, h2, fun q v hq => ?_⟩
      have hb := xF.block ad.block (hA ad ha h0).2 (fun e2 => (hA ad ha h0).1 (by rcases e2 with e2 | e2 <;> simp [foot, e2]))
      have := h3 q v hq
      have hbl : (ad.add (j * (Kd.int .u8).sz + q)).block = ad.block := by unfold Addr.add; split <;> rfl
      unfold World.cell? at this ⊢
      rw [hbl] at this ⊢
      rw [hb]; exact this
    · simp only [foot, List.mem_cons, List.mem_append, Option.mem_toList, Option.mem_def] at hm
      rcases hm with hm | hm | hm | hm
      · exact (hA ad ha h0).1 (by simp [foot, hm])
      · exact (hA ad ha h0).1 (by simp [foot, hm])
      · exact (hA ad ha h0).1 (by simp [foot, hm])
      · exact (hnew _ hm).elim (fun h' => (hA ad ha h0).1 (by simp [foot, h'])) (fun h' => absurd (hA ad ha h0).2 (by omega))
  · refine ⟨base, Kd.R_mono (Kd.R_step (Kd.R_tight rfl hR) (fun j hj hlt => Below.heap_setCell w' _ v1 j (fun e => hv1c (by have e2 : j = c := e; rw [← e2]; exact hj.symm)))) (fun _ _ => trivial)⟩
  · intro i hi
    simp only [foot, List.mem_cons, List.mem_append, Option.mem_toList, Option.mem_def] at hi
    rcases hi with hi | hi | hi | hi
    · exact .inl (by simp [foot, hi])
    · exact .inl (by simp [foot, hi])
    · exact .inl (by simp [foot, hi])
    · exact (hnew _ hi).imp (fun h' => by simp [foot, h']) id
set_option maxRecDepth 100000 in
/-- The first byte of the input is taken. -/
theorem XM.take_in {b : Int} {rest : List Int} (h : XM w c pg fx ps S (b :: rest) out) : ∃ ad cap A', S.inV = .slice (some ad) (rest.length + 1) cap ∧ w.cell? ad = some (.int .u8 b) ∧ (∀ W : World, (Instr.slice 22 (.slice (some ad) (rest.length + 1) cap) (some (.int .i64 1)) none none).run Tryd.prog W = .ok (.slice A' rest.length (cap - 1)) W) ∧
    XDid w (w.setCell ⟨c, 3, none⟩ (.slice A' rest.length (cap - 1))) c pg fx ps S ps { S with inV := .slice A' rest.length (cap - 1) } rest out := by
  obtain ⟨A, cap, e1, hl, hC, hA⟩ := h.inS
  have hR := Kd.reads_of_C (enc := Value.int .u8) (d := (0 : Int)) (h1 := fun _ => rfl) hC
  obtain ⟨ad, rfl, hc⟩ := hR.2.2 (by simp)
  obtain ⟨i, hi, hz, hs, hb⟩ := info5
  have hel : Tryd.prog.elem 22 = 5 := by simp [Program.elem, Tryd.underlying22]
  have hu : Tryd.prog.underlying 22 = some (.slice (Tryd.prog.elem 22)) := by rw [hel]; exact Tryd.underlying22
  have hl2 : rest.length + 1 ≤ cap := by simpa using hl
  have hRI : ReadsInt w .u8 (some ad) (rest.length + 1) (b :: rest) := hR
  have hdr := hRI.drop_ 1 (by omega) hl2
  obtain ⟨A', hA'⟩ : ∃ q, q = (if cap = 1 then some ad else (some ad).map (·.add 1)) := ⟨_, rfl⟩
  have hblk : ∀ a', A' = some a' → a'.block = ad.block := by
    intro a' e
    rw [hA'] at e
    split at e
    · injection e with e; rw [e]
    · simp only [Option.map_some, Option.some.injEq] at e; rw [← e]; exact add_block ad 1
  refine ⟨ad, cap, A', e1, ?_, fun W => ?_, ?_⟩
  · have := hc 0 (by simp)
    rw [show ad.add 0 = ad by simp [Addr.add]] at this
    exact this
  · rw [run_slice_l W 22 (some ad) (rest.length + 1) cap hu .i64 1 (by decide) (by omega), hel, hA']
    simp [sizeOf, typeInfo, hi, hs, sliced, Result.andThen]
  · have hnd := h.nodup
    have xE : Ext (fun k => k = c) w (w.setCell ⟨c, 3, none⟩ (.slice A' rest.length (cap - 1))) := Ext.setCell (F := fun k => k = c) (p := ⟨c, 3, none⟩) (Ext.refl _ _) (Or.inl rfl) _
    have hnc : ∀ k ∈ pg :: (blocks ps ++ S.outV.ownBlock.toList), ¬ k = c := by
      intro k hk e
      unfold foot at hnd
      exact (List.nodup_cons.1 hnd).1 (e ▸ hk)
    refine ⟨⟨?_, h.nreg, h.regIn, h.pcIn, h.codeIn, xE.at h.pages (hnc pg (by simp)), h.npg, ?_, hnd, ?_, ?_⟩, xE.mono (fun k hk => by subst hk; simp [foot]), fun k hk => .inl hk⟩
    · refine blk_put h.head 3 _ ?_
      obtain ⟨r0, r1, r2, r3, r4, r5, r6, r7, r8, r9, r10, r11, r12, r13, r14, r15, e⟩ := regs16 h.nreg
      simp [xRow, e]
    · intro g bs hm
      obtain ⟨h1, h2⟩ := h.page g bs hm
      refine ⟨xE.at h1 (hnc g ?_), h2⟩
      simp only [List.mem_cons, List.mem_append, blocks, List.mem_filterMap]
      exact .inr (.inl ⟨_, hm, rfl⟩)
    · refine ⟨A', cap - 1, rfl, by omega, ?_, fun a' e _ => ⟨by rw [hblk a' e]; exact (hA ad rfl (by simp)).1, Nat.lt_of_lt_of_le (by rw [hblk a' e]; exact (hA ad rfl (by simp)).2) xE.size⟩⟩
      have hd2 : ReadsInt w .u8 A' rest.length rest := by rw [hA']; simpa using hdr
      refine Kd.C_of_reads (enc := Value.int .u8) (d := (0 : Int)) (h1 := fun _ => rfl) ?_
      refine ⟨hd2.1, hd2.2.1, fun h0 => ?_⟩
      obtain ⟨a', e, hx⟩ := hd2.2.2 h0
      refine ⟨a', e, fun j hj => ?_⟩
      rw [cell_far (by rw [add_block, hblk a' e]; exact fun e2 => (hA ad rfl (by simp)).1 (by rw [e2]; simp [foot]))]
      exact hx j hj
    · obtain ⟨base, hR⟩ := h.outS
      exact ⟨base, Kd.R_mono (Kd.R_step (Kd.R_tight rfl hR) (fun j hj hlt => xE.block j hlt (hnc j (by simp [← hj])))) (fun _ _ => trivial)⟩
end Go.Proofs.YtejhnlljddjicaaDoor.Ma
namespace Go.Proofs.YtejhnlljddjicaaDoor.Ma
open Go.RowKit Go.Proofs.YtejhnlljddjicaaDoor.PEm Go.Proofs.YtejhnlljddjicaaDoorW.PrintWords Go.Proofs.YtejhnlljddjicaaDoorW.PrintLast Go.Proofs.YtejhnlljddjicaaDoorW.PrintMore Go.Proofs.YtejhnlljddjicaaDoor.La
set_option linter.unusedVariables false
set_option linter.unusedSimpArgs false
variable {fx : Value × Int} {w w' : World} {c pg : Nat} {ps ps' : Pages} {S S' : Cpu} {inp out inp' out' : List Int}
theorem byte_row {g i : Nat} {bs : List Int} (hg : w.heap[g]? = some (.cells (byteRow bs) 5 (0, 0))) (hi : i < bs.length) : w.cell? ⟨g, i, none⟩ = some (.int .u8 ((bs[i]?).getD 0)) := by
  rw [blk_cell hg]
  simp [byteRow, hi]
set_option maxHeartbeats 4000000 in
set_option maxRecDepth 100000 in
theorem xend_calls (h : XM w c pg fx ps S inp out) (a b : Int) : Calls Tryd.prog 69 #[.pointer (some ⟨c, 0, none⟩), .int .i64 a, .int .i64 b] w fun e w' => e = .returned (.tuple #[]) ∧ XDid w w' c pg fx ps S ps { S with ended := a, exit := b } inp out := by
  have f24 := h.fz 24
  have f25 := h.fz 25
  have k24 := h.kend
  have k25 := h.kex
  have D1 := h.set_ended a
  have D := Aside0.mk (D1.trans (D1.em.set_exit b))
  clear D1 h
  go_enter Tryd.func69, Tryd.ntmps69
  go_wp2
  go_end0
  exact ⟨rfl, D.out⟩
set_option maxHeartbeats 4000000 in
set_option maxRecDepth 100000 in
theorem xtrap_calls (h : XM w c pg fx ps S inp out) (n : Int) : Calls Tryd.prog 48 #[.pointer (some ⟨c, 0, none⟩), .int .i64 n] w fun e w' => e = .returned (.tuple #[]) ∧ XDid w w' c pg fx ps S ps { S with ended := 6, exit := n } inp out := by
  have H := Aside0.mk h
  clear h
  go_enter Tryd.func48, Tryd.ntmps48
  go_wp2_with (first | (go_at_call 69; refine (xend_calls H.out 6 n).mono ?_; rintro e w' ⟨rfl, hd⟩; have D := Aside0.mk hd; clear hd))
  go_end0
  exact ⟨rfl, D.out⟩
/-- What an access that may not be makes of a machine. -/
def mayS (S : Cpu) (n : Int) : Cpu := if n = 0 then S else { S with ended := 6, exit := n }
set_option maxHeartbeats 4000000 in
set_option maxRecDepth 100000 in
theorem xmay_calls (h : XM w c pg fx ps S inp out) (i n : Int) (wr : Bool) (hi : 0 ≤ i ∧ i < 4294967296) (hn : n = 1 ∨ n = 2 ∨ n = 4) : Calls Tryd.prog 72 #[.pointer (some ⟨c, 0, none⟩), .int .u32 i, .int .i64 n, .bool wr] w fun e w' => e = .returned (.bool (decide (mayF S.code i n wr = 0))) ∧ XDid w w' c pg fx ps S ps (mayS S (mayF S.code i n wr)) inp out := by
  have c1 := h.k1
  obtain ⟨k0, k1⟩ := h.codeIn
  obtain ⟨hi0, hi1⟩ := hi
  have H := Aside0.mk h
  clear h
  have hm : Int.tmod i n = i % n := Int.tmod_eq_emod_of_nonneg hi0
  by_cases a1 : i % n = 0
  · by_cases a2 : i < 4096 ∨ 8388608 - n < i ∨ (wr = true ∧ i < 4096 + S.code)
    · have e : mayF S.code i n wr = 2 := by unfold mayF; rw [if_neg (by omega), if_pos a2]
      rw [e]
      generalize hco : S.code = code at *
      rcases hn with rfl | rfl | rfl <;> cases wr
      all_goals (go_enter Tryd.func72, Tryd.ntmps72)
      all_goals (go_wp2_with (first | (go_at_call 48; refine (xtrap_calls H.out 2).mono ?_; rintro e w' ⟨rfl, hd⟩; have D := Aside0.mk hd; clear hd)))
      all_goals first | (go_ret; exact ⟨rfl, D.out⟩) | (exfalso; simp at *; omega)
    · have e : mayF S.code i n wr = 0 := by unfold mayF; rw [if_neg (by omega), if_neg a2]
      rw [e]
      generalize hco : S.code = code at *
      rcases hn with rfl | rfl | rfl <;> cases wr
      all_goals (go_enter Tryd.func72, Tryd.ntmps72)
      all_goals (go_wp2_with (fail))
      all_goals first | (go_ret; exact ⟨rfl, XDid.same H.out (Below.refl _ _)⟩) | (exfalso; simp at *; omega)
  · have e : mayF S.code i n wr = 1 := by unfold mayF; rw [if_pos a1]
    rw [e]
    rcases hn with rfl | rfl | rfl
    · exact absurd (by omega) a1
    all_goals (go_enter Tryd.func72, Tryd.ntmps72)
    all_goals (go_wp2_with (first | (go_at_call 48; refine (xtrap_calls H.out 1).mono ?_; rintro e w' ⟨rfl, hd⟩; have D := Aside0.mk hd; clear hd)))
    all_goals first | (go_ret; exact ⟨rfl, D.out⟩) | (exfalso; simp at *; omega)
set_option maxHeartbeats 4000000 in
set_option maxRecDepth 100000 in
theorem xbyteAt_calls (h : XM w c pg fx ps S inp out) (a : Int) (h0 : 0 ≤ a) (h1 : a < 8388608) : Calls Tryd.prog 49 #[.pointer (some ⟨c, 0, none⟩), .int .i64 a] w fun e w' => e = .returned (.int .u8 (byteAt ps a.toNat)) ∧ w' = w := by
  have c0 := h.kpg
  have c1 := h.pgcell (a / 4096).toNat
  have hb0 : 0 ≤ a / 4096 := by omega
  have hb1 : a / 4096 < 2048 := by omega
  have hm0 : 0 ≤ a % 4096 := by omega
  have hm1 : a % 4096 < 4096 := by omega
  have hkn : (a / 4096).toNat = a.toNat / 4096 := by omega
  have hmn : (a % 4096).toNat = a.toNat % 4096 := by omega
  have hl : (a / 4096).toNat < ps.length := by rw [h.npg]; omega
  have hq : Int.tdiv a 4096 = a / 4096 := Int.tdiv_eq_ediv_of_nonneg h0
  have hr : Int.tmod a 4096 = a % 4096 := Int.tmod_eq_emod_of_nonneg h0
  cases hk : ps[(a / 4096).toNat]? with
  | none => rw [List.getElem?_eq_none_iff] at hk; omega
  | some p =>
    rw [hk] at c1
    simp only [Option.map_some] at c1
    cases p with
    | none =>
      have hw : byteAt ps a.toNat = 0 := byte_out (by rw [← hkn]; exact hk)
      rw [hw]
      simp only [pgVal] at c1
      clear h hk hl hw hkn hmn
      go_enter Tryd.func49, Tryd.ntmps49
      go_wp2
      go_ret
      exact ⟨rfl, rfl⟩
    | some q =>
      obtain ⟨g, bs⟩ := q
      simp only [pgVal] at c1
      obtain ⟨hg, hlen, _⟩ := h.page g bs (List.mem_of_getElem? hk)
      have c2 : w.cell? ⟨g, (a % 4096).toNat, none⟩ = some (.int .u8 (byteAt ps a.toNat)) := by
        rw [blk_cell hg, byte_in (by rw [← hkn]; exact hk), ← hmn]
        have : (a % 4096).toNat < bs.length := by omega
        simp [byteRow, this]
      clear h hk hl hkn hmn hg hlen
      generalize byteAt ps a.toNat = v at c2 ⊢
      go_enter Tryd.func49, Tryd.ntmps49
      go_wp2
      go_ret
      exact ⟨rfl, rfl⟩
set_option maxHeartbeats 4000000 in
set_option maxRecDepth 100000 in
theorem xjump_calls (h : XM w c pg fx ps S inp out) (n : Int) (hn : -8388608 ≤ n ∧ n ≤ 16777216) : Calls Tryd.prog 75 #[.pointer (some ⟨c, 0, none⟩), .int .i64 n] w fun e w' => e = .returned (.tuple #[]) ∧ XDid w w' c pg fx ps S ps { S with pc := jumpF S.pc n } inp out := by
  have c5 := h.kpc
  have f5 := h.fz 5
  have hp := h.pcIn
  obtain ⟨n0, n1⟩ := hn
  have D := Aside0.mk (h.set_pc (jumpF S.pc n) (by unfold jumpF; omega) (by unfold jumpF; omega))
  clear h
  unfold jumpF at D ⊢
  generalize S.pc = p at *
  go_enter Tryd.func75, Tryd.ntmps75
  go_wp2
  go_end0
  have D2 := D.out
  rw [show (p + 4 * n % 4294967296) % 4294967296 = (p + 4 * n) % 4294967296 by omega] at D2 ⊢
  exact ⟨rfl, D2⟩
set_option maxHeartbeats 4000000 in
set_option maxRecDepth 100000 in
theorem xset_there (h : XM w c pg fx ps S inp out) (a : Int) (h0 : 0 ≤ a) (h1 : a < 8388608) (b : Int) (hb : 0 ≤ b ∧ b < 256) {g : Nat} {bs : List Int} (hk : ps[(a / 4096).toNat]? = some (some (g, bs))) : Calls Tryd.prog 74 #[.pointer (some ⟨c, 0, none⟩), .int .i64 a, .int .u8 b] w fun e w' => e = .returned (.tuple #[]) ∧ XDid w w' c pg fx ps S (ps.set (a / 4096).toNat (some (g, bs.set (a % 4096).toNat b))) S inp out := by
  have c0 := h.kpg
  have c1 := h.pgcell (a / 4096).toNat
  rw [hk] at c1
  simp only [Option.map_some, pgVal] at c1
  have hb0 : 0 ≤ a / 4096 := by omega
  have hb1 : a / 4096 < 2048 := by omega
  have hm0 : 0 ≤ a % 4096 := by omega
  have hm1 : a % 4096 < 4096 := by omega
  have hq : Int.tdiv a 4096 = a / 4096 := Int.tdiv_eq_ediv_of_nonneg h0
  have hr : Int.tmod a 4096 = a % 4096 := Int.tmod_eq_emod_of_nonneg h0
  obtain ⟨hg, hlen, _⟩ := h.page g bs (List.mem_of_getElem? hk)
  have fz := blk_frozen hg (a % 4096).toNat
  have c2 : w.cell? ⟨g, (a % 4096).toNat, none⟩ = some (.int .u8 ((bs[(a % 4096).toNat]?).getD 0)) := by
    rw [blk_cell hg]
    have : (a % 4096).toNat < bs.length := by omega
    simp [byteRow, this]
  have D := Aside0.mk (h.setbyte hk (a % 4096).toNat (by omega) b hb)
  clear h hk hg hlen
  generalize (bs[(a % 4096).toNat]?).getD 0 = old at c2
  go_enter Tryd.func74, Tryd.ntmps74
  go_wp2
  go_end0
  exact ⟨rfl, D.out⟩
set_option maxHeartbeats 4000000 in
set_option maxRecDepth 100000 in
theorem xset_laid (h : XM w c pg fx ps S inp out) (a : Int) (h0 : 0 ≤ a) (h1 : a < 8388608) (b : Int) (hb : 0 ≤ b ∧ b < 256) (hk : ps[(a / 4096).toNat]? = some none) : Calls Tryd.prog 74 #[.pointer (some ⟨c, 0, none⟩), .int .i64 a, .int .u8 b] w fun e w' => e = .returned (.tuple #[]) ∧ XDid w w' c pg fx ps S (ps.set (a / 4096).toNat (some (w.heap.size, zpage.set (a % 4096).toNat b))) S inp out := by
  have c0 := h.kpg
  have c1 := h.pgcell (a / 4096).toNat
  rw [hk] at c1
  simp only [Option.map_some, pgVal] at c1
  have hb0 : 0 ≤ a / 4096 := by omega
  have hb1 : a / 4096 < 2048 := by omega
  have hm0 : 0 ≤ a % 4096 := by omega
  have hm1 : a % 4096 < 4096 := by omega
  have hq : Int.tdiv a 4096 = a / 4096 := Int.tdiv_eq_ediv_of_nonneg h0
  have hr : Int.tmod a 4096 = a % 4096 := Int.tmod_eq_emod_of_nonneg h0
  have BD : Below w.heap.size w w.drew := (Below.refl _ _).drew
  have hD := h.below BD
  have hmk : ∀ W, (Instr.makeSlice 22 (.int .i64 4096) (.int .i64 4096)).run Tryd.prog W = .ok (.slice (some ⟨W.heap.size, 0, none⟩) 4096 4096) (W.alloc (.cells (byteRow zpage) 5)) := fun W => run_make5 4096 (by decide) (by decide) W
  have BA := below_alloc (Below.refl w.drew.heap.size w.drew) (.cells (byteRow zpage) 5)
  have d0 := hD.kpg
  have d1 := hD.pgcell (a / 4096).toNat
  rw [hk] at d1
  simp only [Option.map_some, pgVal] at d1
  have a0 := pw_cell_below BA d0
  have a1 := pw_cell_below BA d1
  have fz := blk_frozen (blk_alloc hD.pages (.cells (byteRow zpage) 5)) (a / 4096).toNat
  have hl : (a / 4096).toNat < ps.length := by rw [h.npg]; omega
  have D1 := Aside0.mk (XDid.pre BD (hD.newpage _ hk))
  have HH := Aside0.mk (show (ps.set (a / 4096).toNat (some (w.drew.heap.size, zpage)))[(a / 4096).toNat]? = some (some (w.drew.heap.size, zpage)) from List.getElem?_set_self hl)
  have HB := Aside0.mk hb
  have hw : IntKind.i64.wrap (a / 4096) = a / 4096 := IntWalk.i64_in _ (by omega)
  have hx : w.drew.alloc (.cells (byteRow zpage) 5) = (w.alloc (.cells (byteRow zpage) 5)).drew := rfl
  have hy : w.drew.heap.size = w.heap.size := rfl
  rw [hx] at a0 a1 fz D1
  rw [hy] at D1 HH
  clear h hk BA hl hD BD hx hy d0 d1
  go_enter Tryd.func74, Tryd.ntmps74
  go_upto_region 1 with (fail)
  go_wp2_with (fail)
  go_region_law (fail)
  all_goals (
    have D2 : Aside0 (XDid w (((w.alloc (.cells (byteRow zpage) 5)).setCell ⟨pg, (a / 4096).toNat, none⟩ (.slice (some ⟨w.heap.size, 0, none⟩) 4096 4096)).drew) c pg fx ps S (ps.set (a / 4096).toNat (some (w.heap.size, zpage))) S inp out) := ⟨D1.out⟩
    clear a0 a1 fz D1 c0 c1 hw
    generalize (((w.alloc (.cells (byteRow zpage) 5)).setCell ⟨pg, (a / 4096).toNat, none⟩ (.slice (some ⟨w.heap.size, 0, none⟩) 4096 4096)).drew) = W1 at D2 ⊢
    obtain ⟨ps1, hps1⟩ : ∃ x, ps.set (a / 4096).toNat (some (w.heap.size, zpage)) = x := ⟨_, rfl⟩
    have HP := Aside0.mk hps1
    rw [hps1] at D2 HH
    clear hps1
    generalize hgs : w.heap.size = g at D2 HH HP ⊢
    have c0 := D2.out.em.kpg
    have c1 := D2.out.em.pgcell (a / 4096).toNat
    rw [HH.out] at c1
    simp only [Option.map_some, pgVal] at c1
    obtain ⟨hg, hlen, _⟩ := D2.out.em.page g zpage (List.mem_of_getElem? HH.out)
    have fz := blk_frozen hg (a % 4096).toNat
    obtain ⟨old, c2⟩ : ∃ old, W1.cell? ⟨g, (a % 4096).toNat, none⟩ = some (.int .u8 old) := ⟨_, byte_row hg (by rw [hlen]; omega)⟩
    have D3 := Aside0.mk (D2.out.trans (D2.out.em.setbyte HH.out (a % 4096).toNat (by omega) b HB.out))
    clear hg hlen
    go_wp2
    go_end0
    subst hgs
    have D4 := D3.out
    rw [← HP.out, List.set_set] at D4
    exact ⟨rfl, D4⟩)
theorem xset_calls (h : XM w c pg fx ps S inp out) (a : Int) (h0 : 0 ≤ a) (h1 : a < 8388608) (b : Int) (hb : 0 ≤ b ∧ b < 256) : Calls Tryd.prog 74 #[.pointer (some ⟨c, 0, none⟩), .int .i64 a, .int .u8 b] w fun e w' => e = .returned (.tuple #[]) ∧ ∃ ps', XDid w w' c pg fx ps S ps' S inp out ∧ ∀ i, byteAt ps' i = if i = a.toNat then b else byteAt ps i := by
  have hl : (a / 4096).toNat < ps.length := by rw [h.npg]; omega
  have hkm : ∀ i : Nat, i = (a / 4096).toNat * 4096 + (a % 4096).toNat ↔ i = a.toNat := by intro i; omega
  cases hk : ps[(a / 4096).toNat]? with
  | none => rw [List.getElem?_eq_none_iff] at hk; omega
  | some p =>
    cases p with
    | none =>
      refine (xset_laid h a h0 h1 b hb hk).mono ?_
      rintro e w' ⟨rfl, d⟩
      refine ⟨rfl, _, d, fun i => ?_⟩
      have h2 := byte_set (List.getElem?_set_self (l := ps) (a := some (w.heap.size, zpage)) hl) (by rw [zpage, List.length_replicate]) (a % 4096).toNat (by omega) b i
      rw [List.set_set] at h2
      rw [h2, same_laid hk]
      simp only [hkm]
    | some q =>
      obtain ⟨g, bs⟩ := q
      refine (xset_there h a h0 h1 b hb hk).mono ?_
      rintro e w' ⟨rfl, d⟩
      refine ⟨rfl, _, d, fun i => ?_⟩
      rw [byte_set hk (h.page g bs (List.mem_of_getElem? hk)).2.1 (a % 4096).toNat (by omega) b i]
      simp only [hkm]
end Go.Proofs.YtejhnlljddjicaaDoor.Ma
