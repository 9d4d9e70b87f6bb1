/- What a machine of package emu is in the model's world: its cells, its pages; what stays. No condition. And more of the kind: 6 texts in one. -/
import Derived.Test.YtejhnlljddjicaaDoorVPEmx3
import Derived.Deep.WholeRow
import Derived.Deep.Cut
import Derived.StillTailTactics
import Derived.Test.YtejhnlljddjicaaDoorVGg
namespace Go.Proofs.YtejhnlljddjicaaDoor.Ma
open Go.RowKit Go.Proofs.YtejhnlljddjicaaDoor.PEm Go.Proofs.YtejhnlljddjicaaDoorW.PrintWords Go.Proofs.YtejhnlljddjicaaDoorW.PrintLast Go.Proofs.YtejhnlljddjicaaDoorW.PrintMore
set_option linter.unusedVariables false
set_option linter.unusedSimpArgs false

/-- All blocks but those of F are as they were; the streams are. -/
structure Ext (F : Nat → Prop) (w w' : World) : Prop where
  os : w'.os = w.os
  tape : w'.tape = w.tape
  output : w'.output = w.output
  size : w.heap.size ≤ w'.heap.size
  block : ∀ k, k < w.heap.size → ¬ F k → w'.heap[k]? = w.heap[k]?
theorem Ext.refl (F : Nat → Prop) (w : World) : Ext F w w := ⟨rfl, rfl, rfl, Nat.le_refl _, fun _ _ _ => rfl⟩
theorem Ext.trans {F G : Nat → Prop} {a b c : World} (h : Ext F a b) (k : Ext G b c) (hg : ∀ i, i < a.heap.size → G i → F i) : Ext F a c :=
  ⟨k.os.trans h.os, k.tape.trans h.tape, k.output.trans h.output, Nat.le_trans h.size k.size, fun i hi hf => (k.block i (Nat.lt_of_lt_of_le hi h.size) (fun g => hf (hg i hi g))).trans (h.block i hi hf)⟩
theorem Ext.mono {F G : Nat → Prop} {a b : World} (h : Ext F a b) (hg : ∀ i, F i → G i) : Ext G a b := ⟨h.os, h.tape, h.output, h.size, fun i hi hf => h.block i hi (fun f => hf (hg i f))⟩
theorem Ext.of_below {F : Nat → Prop} {w w' : World} (h : Below w.heap.size w w') : Ext F w w' := ⟨h.os, h.tape, h.output, h.size, fun i hi _ => h.block i hi⟩
theorem Ext.below_of {F : Nat → Prop} {B : Nat} {w w' : World} (h : Ext F w w') (hB : B ≤ w.heap.size) (hF : ∀ i, F i → B ≤ i) : Below B w w' :=
  ⟨h.os, h.tape, h.output, h.size, fun i hi => h.block i (Nat.lt_of_lt_of_le hi hB) (fun f => absurd (hF i f) (by omega))⟩
theorem Ext.then_below {F : Nat → Prop} {a b c : World} (h : Ext F a b) (k : Below b.heap.size b c) : Ext F a c :=
  h.trans (Ext.of_below (F := fun _ => False) k) (fun _ _ f => f.elim)
theorem Ext.setCell {F : Nat → Prop} {w W : World} (h : Ext F w W) {p : Addr} (hp : F p.block ∨ w.heap.size ≤ p.block) (u : Value) : Ext F w (W.setCell p u) :=
  ⟨h.os, h.tape, h.output, by simpa [World.setCell] using h.size, fun i hi hf => (Below.heap_setCell W p u i (fun e => hp.elim (fun f => hf (e ▸ f)) (fun g => absurd hi (by omega)))).trans (h.block i hi hf)⟩
theorem Ext.at {F : Nat → Prop} {w W : World} (h : Ext F w W) {k : Nat} {o : Obj} (hk : w.heap[k]? = some o) (hf : ¬ F k) : W.heap[k]? = some o :=
  (h.block k (Array.getElem?_eq_some_iff.1 hk).1 hf).trans hk
theorem pm_chain {w W w' : World} (h : Below w.heap.size w W) (k : Below W.heap.size W w') : Below w.heap.size w w' := below_then h h.size k
theorem lt_of_at {w : World} {k : Nat} {o : Obj} (h : w.heap[k]? = some o) : k < w.heap.size := (Array.getElem?_eq_some_iff.1 h).1
theorem heap_at (W : World) (o : Obj) (n : Nat) (h : n = W.heap.size) : (W.alloc o).heap[n]? = some o := by subst h; exact heap_alloc_last W o

/-- What a machine's own cells hold. -/
structure Cpu where
  code : Int
  pc : Int
  regs : List Int
  steps : Int
  inV : Value
  outV : Value
  ended : Int
  exit : Int
/-- The pages: none, or where its bytes lie and the bytes. -/
abbrev Pages := List (Option (Nat × List Int))
def cpuRow (pg : Nat) (S : Cpu) : List Value :=
  [.slice (some ⟨pg, 0, none⟩) 2048 2048, .int .i64 S.code, .int .u32 S.pc] ++ (S.regs.map (.int .u32 ·) ++ [.int .i64 S.steps, S.inV, S.outV, .int .i64 S.ended, .int .i64 S.exit])
def pgVal : Option (Nat × List Int) → Value
  | none => .slice none 0 0
  | some (g, _) => .slice (some ⟨g, 0, none⟩) 4096 4096
def byteRow (bs : List Int) : Array Value := (bs.map (.int .u8 ·)).toArray
def blocks (ps : Pages) : List Nat := ps.filterMap fun p => p.map (·.1)
/-- The blocks that a machine writes. -/
def foot (c pg : Nat) (ps : Pages) (S : Cpu) : List Nat := c :: pg :: (blocks ps ++ S.outV.ownBlock.toList)
/-- A byte of the memory. -/
def byteAt (ps : Pages) (a : Nat) : Int := match ps[a / 4096]? with
  | some (some (_, bs)) => (bs[a % 4096]?).getD 0
  | _ => 0
structure EM (w : World) (c pg : Nat) (ps : Pages) (S : Cpu) (inp out : List Int) : Prop where
  head : w.heap[c]? = some (.cells (cpuRow pg S).toArray 55 (0, 0))
  nreg : S.regs.length = 16
  regIn : ∀ v ∈ S.regs, 0 ≤ v ∧ v < 4294967296
  pcIn : 0 ≤ S.pc ∧ S.pc < 4294967296
  codeIn : 4 ≤ S.code ∧ S.code ≤ 1048576
  pages : w.heap[pg]? = some (.cells (ps.map pgVal).toArray 22 (0, 0))
  npg : ps.length = 2048
  page : ∀ g bs, some (g, bs) ∈ ps → w.heap[g]? = some (.cells (byteRow bs) 5 (0, 0)) ∧ bs.length = 4096 ∧ ∀ b ∈ bs, 0 ≤ b ∧ b < 256
  nodup : (foot c pg ps S).Nodup
  inS : ∃ A cap, S.inV = .slice A inp.length cap ∧ inp.length ≤ cap ∧ Kd.C (Kd.int .u8) w A inp.length inp ∧ ∀ ad, A = some ad → ad.block ∉ foot c pg ps S ∧ ad.block < w.heap.size
  outS : ∃ base, Kd.R (Kd.int .u8) 5 w base (fun _ => True) S.outV out
variable {w w' : World} {c pg : Nat} {ps : Pages} {S : Cpu} {inp out : List Int}
theorem cpu_cell {g pg : Nat} {S : Cpu} (h : w.heap[g]? = some (.cells (cpuRow pg S).toArray 55 (0, 0))) (i : Nat) : w.cell? ⟨g, i, none⟩ = (cpuRow pg S)[i]? := by
  rw [blk_cell h, List.getElem?_toArray]
theorem cpu_froz {g pg : Nat} {S : Cpu} (h : w.heap[g]? = some (.cells (cpuRow pg S).toArray 55 (0, 0))) (i : Nat) : w.frozen? ⟨g, i, none⟩ = false := blk_frozen h i
theorem cpu_at (hn : S.regs.length = 16) (i : Nat) : (cpuRow pg S)[i]? = if i = 0 then some (.slice (some ⟨pg, 0, none⟩) 2048 2048) else if i = 1 then some (.int .i64 S.code) else if i = 2 then some (.int .u32 S.pc)
    else if i < 19 then (S.regs[i - 3]?).map (.int .u32 ·) else if i = 19 then some (.int .i64 S.steps) else if i = 20 then some S.inV else if i = 21 then some S.outV else if i = 22 then some (.int .i64 S.ended) else if i = 23 then some (.int .i64 S.exit) else none := by
  unfold cpuRow
  by_cases h0 : i < 3
  · rw [List.getElem?_append_left (by simpa using h0)]
    rcases (by omega : i = 0 ∨ i = 1 ∨ i = 2) with rfl | rfl | rfl <;> rfl
  · rw [List.getElem?_append_right (by simp; omega), if_neg (by omega), if_neg (by omega), if_neg (by omega)]
    simp only [List.length_cons, List.length_nil]
    by_cases h1 : i < 19
    · rw [if_pos h1, List.getElem?_append_left (by simp; omega), List.getElem?_map]
    · rw [if_neg h1, List.getElem?_append_right (by simp; omega)]
      simp only [List.length_map, hn]
      by_cases h2 : i < 24
      · rcases (by omega : i = 19 ∨ i = 20 ∨ i = 21 ∨ i = 22 ∨ i = 23) with rfl | rfl | rfl | rfl | rfl <;> rfl
      · rw [List.getElem?_eq_none (by simp; omega), if_neg (by omega), if_neg (by omega), if_neg (by omega), if_neg (by omega), if_neg (by omega)]
theorem EM.foot_lt (h : EM w c pg ps S inp out) : ∀ i ∈ foot c pg ps S, i < w.heap.size := by
  intro i hi
  simp only [foot, List.mem_cons, List.mem_append, blocks, List.mem_filterMap] at hi
  rcases hi with rfl | rfl | ⟨p, hp, e⟩ | hi
  · exact lt_of_at h.head
  · exact lt_of_at h.pages
  · cases p with
    | none => cases e
    | some q =>
      obtain ⟨g, bs⟩ := q
      simp only [Option.map_some, Option.some.injEq] at e
      subst e
      exact lt_of_at (h.page g bs hp).1
  · obtain ⟨base, hR⟩ := h.outS
    exact Kd.R_lt hR i (by simpa using hi)
/-- What a machine keeps when nothing of it is written. -/
theorem EM.ext {F : Nat → Prop} (h : EM w c pg ps S inp out) (k : Ext F w w') (hF : ∀ i ∈ foot c pg ps S, ¬ F i) (hI : ∀ A n cp ad, S.inV = .slice A n cp → A = some ad → ¬ F ad.block) : EM w' c pg ps S inp out := by
  have hc : c ∈ foot c pg ps S := by simp [foot]
  have hp : pg ∈ foot c pg ps S := by simp [foot]
  refine ⟨k.at h.head (hF c hc), h.nreg, h.regIn, h.pcIn, h.codeIn, k.at h.pages (hF pg hp), h.npg, ?_, h.nodup, ?_, ?_⟩
  · intro g bs hm
    obtain ⟨h1, h2⟩ := h.page g bs hm
    refine ⟨k.at h1 (hF g ?_), h2⟩
    simp only [foot, List.mem_cons, List.mem_append, blocks, List.mem_filterMap]
    exact .inr (.inr (.inl ⟨_, hm, rfl⟩))
  · obtain ⟨A, cap, e, hl, hC, hA⟩ := h.inS
    refine ⟨A, cap, e, hl, ?_, fun ad ha => ⟨(hA ad ha).1, Nat.lt_of_lt_of_le (hA ad ha).2 k.size⟩⟩
    refine ⟨hC.1, hC.2.1, fun h0 => ?_⟩
    obtain ⟨ad, ha, hx⟩ := hC.2.2 h0
    refine ⟨ad, ha, fun j p hj => ?_⟩
    obtain ⟨cs, h1, h2, h3⟩ := hx j p hj
    refine ⟨cs, h1, h2, fun q u hq => ?_⟩
    have hb := k.block ad.block (hA ad ha).2 (hI A _ _ ad e ha)
    have := h3 q u hq
    have hbl : (ad.add (j * (Kd.int .u8).sz + q)).block = ad.block := by unfold Addr.add; split <;> rfl
    unfold World.cell? at this ⊢
    rw [hbl] at this ⊢
    rw [hb]; exact this
  · obtain ⟨base, hR⟩ := h.outS
    refine ⟨base, Kd.R_mono (Kd.R_step (Kd.R_mono (Kd.R_tight rfl hR) (fun k hk => hk)) (fun j hj hlt => k.block j hlt (hF j ?_))) (fun _ _ => trivial)⟩
    simp only [foot, List.mem_cons, List.mem_append]
    exact .inr (.inr (.inr (by simp [← hj])))
end Go.Proofs.YtejhnlljddjicaaDoor.Ma
namespace Go.Proofs.YtejhnlljddjicaaDoor.Ma
open Go.RowKit Go.Proofs.YtejhnlljddjicaaDoor.PEm Go.Proofs.YtejhnlljddjicaaDoorW.PrintWords Go.Proofs.YtejhnlljddjicaaDoorW.PrintLast Go.Proofs.YtejhnlljddjicaaDoorW.PrintMore
set_option linter.unusedVariables false
set_option linter.unusedSimpArgs false
variable {w w' : World} {c pg : Nat} {ps : Pages} {S : Cpu} {inp out : List Int}
theorem ne53 (W : World) (ad : Addr) (n c : Nat) : (binOp .neq 53 (.slice (some ad) n c) (.slice none 0 0)).run Tryd.prog W = .ok (.bool true) W := by kernel_rfl
theorem EM.k0 (h : EM w c pg ps S inp out) : w.cell? ⟨c, 0, none⟩ = some (.slice (some ⟨pg, 0, none⟩) 2048 2048) := by rw [cpu_cell h.head, cpu_at h.nreg]; rfl
theorem EM.k1 (h : EM w c pg ps S inp out) : w.cell? ⟨c, 1, none⟩ = some (.int .i64 S.code) := by rw [cpu_cell h.head, cpu_at h.nreg]; rfl
theorem EM.k2 (h : EM w c pg ps S inp out) : w.cell? ⟨c, 2, none⟩ = some (.int .u32 S.pc) := by rw [cpu_cell h.head, cpu_at h.nreg]; rfl
theorem EM.kr (h : EM w c pg ps S inp out) {a : Nat} {v : Int} (hv : S.regs[a]? = some v) : w.cell? ⟨c, 3 + a, none⟩ = some (.int .u32 v) := by
  have : a < 16 := by rw [← h.nreg]; exact (List.getElem?_eq_some_iff.1 hv).1
  rw [cpu_cell h.head, cpu_at h.nreg, if_neg (by omega), if_neg (by omega), if_neg (by omega), if_pos (by omega), show 3 + a - 3 = a by omega, hv]; rfl
theorem EM.k19 (h : EM w c pg ps S inp out) : w.cell? ⟨c, 19, none⟩ = some (.int .i64 S.steps) := by rw [cpu_cell h.head, cpu_at h.nreg]; rfl
theorem EM.k20 (h : EM w c pg ps S inp out) : w.cell? ⟨c, 20, none⟩ = some S.inV := by rw [cpu_cell h.head, cpu_at h.nreg]; rfl
theorem EM.k21 (h : EM w c pg ps S inp out) : w.cell? ⟨c, 21, none⟩ = some S.outV := by rw [cpu_cell h.head, cpu_at h.nreg]; rfl
theorem EM.k22 (h : EM w c pg ps S inp out) : w.cell? ⟨c, 22, none⟩ = some (.int .i64 S.ended) := by rw [cpu_cell h.head, cpu_at h.nreg]; rfl
theorem EM.k23 (h : EM w c pg ps S inp out) : w.cell? ⟨c, 23, none⟩ = some (.int .i64 S.exit) := by rw [cpu_cell h.head, cpu_at h.nreg]; rfl
theorem EM.fz (h : EM w c pg ps S inp out) (i : Nat) : w.frozen? ⟨c, i, none⟩ = false := cpu_froz h.head i
set_option maxHeartbeats 4000000 in
theorem alive_yes (h : EM w c pg ps S inp out) : Calls Tryd.prog 27 #[.pointer (some ⟨c, 0, none⟩)] w fun e w' => e = .returned (.bool true) ∧ w' = w := by
  have c0 := h.k0
  have hn := ne53
  clear h
  go_enter Tryd.func27, Tryd.ntmps27
  go_wp2
  go_ret
  exact ⟨rfl, rfl⟩
/-- Why an access is none: the trap's number; 0: it is one. -/
def mayF (code i n : Int) (wr : Bool) : Int := if i % n ≠ 0 then 1 else if i < 4096 ∨ 8388608 - n < i ∨ (wr = true ∧ i < 4096 + code) then 2 else 0
def errT (n : Int) : Value := if n = 0 then .nilIface else .iface 77 (.agg #[.int .i64 n])
theorem may1 {code i n : Int} {wr : Bool} (h : i % n ≠ 0) : errT (mayF code i n wr) = .iface 77 (.agg #[.int .i64 1]) := by unfold mayF; rw [if_pos h]; rfl
theorem may2 {code i n : Int} {wr : Bool} (h : i % n = 0) (h2 : i < 4096 ∨ 8388608 - n < i ∨ (wr = true ∧ i < 4096 + code)) : errT (mayF code i n wr) = .iface 77 (.agg #[.int .i64 2]) := by
  unfold mayF; rw [if_neg (by omega), if_pos h2]; rfl
theorem may0 {code i n : Int} {wr : Bool} (h : i % n = 0) (h2 : ¬ (i < 4096 ∨ 8388608 - n < i ∨ (wr = true ∧ i < 4096 + code))) : errT (mayF code i n wr) = .nilIface := by
  unfold mayF; rw [if_neg (by omega), if_neg h2]; rfl
set_option maxHeartbeats 4000000 in
theorem may_calls (h : EM w c pg ps S inp out) (i n : Int) (wr : Bool) (hi : 0 ≤ i ∧ i < 4294967296) (hn : n = 1 ∨ n = 2 ∨ n = 4) : Calls Tryd.prog 83 #[.pointer (some ⟨c, 0, none⟩), .int .i64 i, .int .i64 n, .bool wr] w fun e w' => e = .returned (errT (mayF S.code i n wr)) ∧ w' = w := by
  have c1 := h.k1
  obtain ⟨k0, k1⟩ := h.codeIn
  obtain ⟨hi0, hi1⟩ := hi
  clear h
  generalize S.code = code at *
  by_cases a1 : i % n = 0
  · by_cases a2 : i < 4096 ∨ 8388608 - n < i ∨ (wr = true ∧ i < 4096 + code)
    · rw [may2 a1 a2]
      rcases hn with rfl | rfl | rfl <;> cases wr
      all_goals (go_enter Tryd.func83, Tryd.ntmps83)
      all_goals (go_wp2)
      all_goals go_ret
      all_goals first | exact ⟨rfl, rfl⟩ | (exfalso; simp at *; omega)
    · rw [may0 a1 a2]
      rcases hn with rfl | rfl | rfl <;> cases wr
      all_goals (go_enter Tryd.func83, Tryd.ntmps83)
      all_goals (go_wp2)
      all_goals go_ret
      all_goals first | exact ⟨rfl, rfl⟩ | (exfalso; simp at *; omega)
  · rw [may1 a1]
    rcases hn with rfl | rfl | rfl
    · exact absurd (by omega) a1
    all_goals (go_enter Tryd.func83, Tryd.ntmps83)
    all_goals (go_wp2)
    all_goals go_ret
    all_goals first | exact ⟨rfl, rfl⟩ | (exfalso; simp at *; omega)
end Go.Proofs.YtejhnlljddjicaaDoor.Ma
namespace Go.Proofs.YtejhnlljddjicaaDoor.Ma
open Go.RowKit Go.Proofs.YtejhnlljddjicaaDoor.PEm Go.Proofs.YtejhnlljddjicaaDoorW.PrintWords Go.Proofs.YtejhnlljddjicaaDoorW.PrintLast Go.Proofs.YtejhnlljddjicaaDoorW.PrintMore
set_option linter.unusedVariables false
set_option linter.unusedSimpArgs false
variable {w w' : World} {c pg : Nat} {ps ps' : Pages} {S S' : Cpu} {inp out inp' out' : List Int}
/-- What a function does to a machine: it stays one; nothing else turns. -/
structure Did (w w' : World) (c pg : Nat) (ps : Pages) (S : Cpu) (ps' : Pages) (S' : Cpu) (inp' out' : List Int) : Prop where
  em : EM w' c pg ps' S' inp' out'
  ext : Ext (fun i => i ∈ foot c pg ps S) w w'
  new : ∀ i ∈ foot c pg ps' S', i ∈ foot c pg ps S ∨ w.heap.size ≤ i
theorem Did.same (h : EM w c pg ps S inp out) (k : Below w.heap.size w w') : Did w w' c pg ps S ps S inp out :=
  ⟨h.ext (Ext.of_below (F := fun _ => False) k) (fun _ _ f => f) (fun _ _ _ _ _ _ f => f), Ext.of_below k, fun _ h => .inl h⟩
theorem Did.trans {w1 w2 : World} {ps2 : Pages} {S2 : Cpu} {i2 o2 : List Int} (h : Did w w1 c pg ps S ps' S' inp' out') (k : Did w1 w2 c pg ps' S' ps2 S2 i2 o2) : Did w w2 c pg ps S ps2 S2 i2 o2 :=
  ⟨k.em, h.ext.trans k.ext (fun i hi hg => (h.new i hg).elim id (fun h' => absurd hi (by omega))), fun i hi => (k.new i hi).elim (h.new i) (fun h' => .inr (Nat.le_trans h.ext.size h'))⟩
theorem Did.pre {w1 : World} (k : Below w.heap.size w w1) (h : Did w1 w' c pg ps S ps' S' inp' out') : Did w w' c pg ps S ps' S' inp' out' :=
  ⟨h.em, (Ext.of_below (F := fun i => i ∈ foot c pg ps S) k).trans h.ext (fun _ _ h => h), fun i hi => (h.new i hi).imp id (fun h' => Nat.le_trans k.size h')⟩
theorem Did.then_below {w2 : World} (h : Did w w' c pg ps S ps' S' inp' out') (k : Below w'.heap.size w' w2) : Did w w2 c pg ps S ps' S' inp' out' := h.trans (Did.same h.em k)
theorem EM.below (h : EM w c pg ps S inp out) (k : Below w.heap.size w w') : EM w' c pg ps S inp out := (Did.same h k).em
/-- One of the machine's own cells is written. -/
theorem EM.set (h : EM w c pg ps S inp out) (i : Nat) (u : Value) (e : (cpuRow pg S).set i u = cpuRow pg S') (hn : S'.regs.length = 16) (hr : ∀ v ∈ S'.regs, 0 ≤ v ∧ v < 4294967296) (hp : 0 ≤ S'.pc ∧ S'.pc < 4294967296)
    (hc : S'.code = S.code) (hi : S'.inV = S.inV) (ho : S'.outV = S.outV) : Did w (w.setCell ⟨c, i, none⟩ u) c pg ps S ps S' inp out := by
  have hf : foot c pg ps S' = foot c pg ps S := by unfold foot; rw [ho]
  have hnd := h.nodup
  have xE : Ext (fun k => k = c) w (w.setCell ⟨c, i, none⟩ u) := Ext.setCell (F := fun k => k = c) (p := ⟨c, i, none⟩) (Ext.refl _ _) (Or.inl rfl) u
  have hnc : ∀ k ∈ pg :: (blocks ps ++ S.outV.ownBlock.toList), ¬ k = c := by
    intro k hk e
    unfold foot at hnd
    exact (List.nodup_cons.1 hnd).1 (e ▸ hk)
  refine ⟨⟨?_, hn, hr, hp, by rw [hc]; exact h.codeIn, xE.at h.pages (hnc pg (by simp)), h.npg, ?_, by rw [hf]; exact hnd, ?_, ?_⟩, xE.mono (fun k hk => by subst hk; simp [foot]), fun k hk => .inl (by rw [hf] at hk; exact hk)⟩
  · refine blk_put h.head i u ?_
    rw [← e]
    apply Array.ext'
    simp
  · intro g bs hm
    obtain ⟨h1, h2⟩ := h.page g bs hm
    refine ⟨xE.at h1 (hnc g ?_), h2⟩
    simp only [List.mem_cons, List.mem_append, blocks, List.mem_filterMap]
    exact .inr (.inl ⟨_, hm, rfl⟩)
  · obtain ⟨A, cap, e1, hl, hC, hA⟩ := h.inS
    refine ⟨A, cap, by rw [hi]; exact e1, hl, ?_, fun ad ha => ⟨by rw [hf]; exact (hA ad ha).1, Nat.lt_of_lt_of_le (hA ad ha).2 xE.size⟩⟩
    refine ⟨hC.1, hC.2.1, fun h0 => ?_⟩
    obtain ⟨ad, ha, hx⟩ := hC.2.2 h0
    refine ⟨ad, ha, fun j p hj => ?_⟩
    obtain ⟨cs, h1, h2, h3⟩ := hx j p hj
    refine ⟨cs, h1, h2, fun q v hq => ?_⟩
    have hb := xE.block ad.block (hA ad ha).2 (fun e2 => (hA ad ha).1 (by rw [e2]; simp [foot]))
    have := h3 q v hq
    have hbl : (ad.add (j * (Kd.int .u8).sz + q)).block = ad.block := by unfold Addr.add; split <;> rfl
    unfold World.cell? at this ⊢
    rw [hbl] at this ⊢
    rw [hb]; exact this
  · obtain ⟨base, hR⟩ := h.outS
    rw [ho]
    refine ⟨base, Kd.R_mono (Kd.R_step (Kd.R_tight rfl hR) (fun j hj hlt => xE.block j hlt (hnc j ?_))) (fun _ _ => trivial)⟩
    simp only [List.mem_cons, List.mem_append]
    exact .inr (.inr (by simp [← hj]))
theorem row_pc (v : Int) : (cpuRow pg S).set 2 (.int .u32 v) = cpuRow pg { S with pc := v } := by simp [cpuRow]
theorem row_reg (hn : S.regs.length = 16) (a : Nat) (ha : a < 16) (v : Int) : (cpuRow pg S).set (3 + a) (.int .u32 v) = cpuRow pg { S with regs := S.regs.set a v } := by
  unfold cpuRow
  rw [List.set_append_right _ _ (by simp), List.set_append_left _ _ (by simp; omega)]
  simp [List.map_set, show 3 + a - 3 = a by omega]
theorem row_tail (hn : S.regs.length = 16) (k : Nat) (hk : k < 5) (u : Value) : (cpuRow pg S).set (19 + k) u = [.slice (some ⟨pg, 0, none⟩) 2048 2048, .int .i64 S.code, .int .u32 S.pc] ++ (S.regs.map (.int .u32 ·) ++ ([.int .i64 S.steps, S.inV, S.outV, .int .i64 S.ended, .int .i64 S.exit] : List Value).set k u) := by
  unfold cpuRow
  rw [List.set_append_right _ _ (by simp; omega), List.set_append_right _ _ (by simp; omega)]
  congr 3
  simp [hn]; omega
theorem EM.set_pc (h : EM w c pg ps S inp out) (v : Int) (h0 : 0 ≤ v) (h1 : v < 4294967296) : Did w (w.setCell ⟨c, 2, none⟩ (.int .u32 v)) c pg ps S ps { S with pc := v } inp out :=
  h.set 2 _ (row_pc v) h.nreg h.regIn ⟨h0, h1⟩ rfl rfl rfl
theorem EM.set_reg (h : EM w c pg ps S inp out) (a : Nat) (ha : a < 16) (v : Int) (h0 : 0 ≤ v) (h1 : v < 4294967296) : Did w (w.setCell ⟨c, 3 + a, none⟩ (.int .u32 v)) c pg ps S ps { S with regs := S.regs.set a v } inp out :=
  h.set (3 + a) _ (row_reg h.nreg a ha v) (by simp [h.nreg]) (fun x hx => (List.mem_or_eq_of_mem_set hx).elim (h.regIn x) (fun e => e ▸ ⟨h0, h1⟩)) h.pcIn rfl rfl rfl
theorem EM.set_steps (h : EM w c pg ps S inp out) (v : Int) : Did w (w.setCell ⟨c, 19, none⟩ (.int .i64 v)) c pg ps S ps { S with steps := v } inp out :=
  h.set 19 _ ((row_tail h.nreg 0 (by omega) _).trans rfl) h.nreg h.regIn h.pcIn rfl rfl rfl
theorem EM.set_ended (h : EM w c pg ps S inp out) (v : Int) : Did w (w.setCell ⟨c, 22, none⟩ (.int .i64 v)) c pg ps S ps { S with ended := v } inp out :=
  h.set 22 _ ((row_tail h.nreg 3 (by omega) _).trans rfl) h.nreg h.regIn h.pcIn rfl rfl rfl
theorem EM.set_exit (h : EM w c pg ps S inp out) (v : Int) : Did w (w.setCell ⟨c, 23, none⟩ (.int .i64 v)) c pg ps S ps { S with exit := v } inp out :=
  h.set 23 _ ((row_tail h.nreg 4 (by omega) _).trans rfl) h.nreg h.regIn h.pcIn rfl rfl rfl
end Go.Proofs.YtejhnlljddjicaaDoor.Ma
namespace Go.Proofs.YtejhnlljddjicaaDoor.Ma
open Go.RowKit Go.Proofs.YtejhnlljddjicaaDoor.PEm Go.Proofs.YtejhnlljddjicaaDoorW.PrintWords Go.Proofs.YtejhnlljddjicaaDoorW.PrintLast Go.Proofs.YtejhnlljddjicaaDoorW.PrintMore
set_option linter.unusedVariables false
set_option linter.unusedSimpArgs false
variable {w w' : World} {c pg : Nat} {ps ps' : Pages} {S S' : Cpu} {inp out inp' out' : List Int}
set_option maxHeartbeats 4000000 in
theorem Of_still (a : Int) (w : World) : Calls Tryd.prog 40 #[.int .i64 a] w fun e w' => e = .returned (.int .u32 (a % 4294967296)) ∧ w' = w := by
  go_enter Tryd.func40, Tryd.ntmps40
  go_wp2
  go_ret
  exact ⟨rfl, rfl⟩
def jumpF (pc n : Int) : Int := (pc + (4 * n) % 4294967296) % 4294967296
set_option maxHeartbeats 4000000 in
set_option maxRecDepth 100000 in
theorem jump_calls (h : EM w c pg ps S inp out) (n : Int) (hn : -8388608 ≤ n ∧ n ≤ 8388607) : Calls Tryd.prog 42 #[.pointer (some ⟨c, 0, none⟩), .int .i64 n] w fun e w' => e = .returned (.tuple #[]) ∧ Did w w' c pg ps S ps { S with pc := jumpF S.pc n } inp out := by
  obtain ⟨n0, n1⟩ := hn
  have hw : IntKind.i64.wrap (4 * n) = 4 * n := IntWalk.i64_in _ (by omega)
  have k2 := h.k2
  have fz := h.fz 2
  have H := Aside0.mk h
  clear h
  generalize hp : S.pc = pc at k2
  have HP := Aside0.mk hp
  clear hp
  go_enter Tryd.func42, Tryd.ntmps42
  refine wp_region_still_tail 12 (by kernel_rfl) (by kernel_rfl) ?_
  simp only [List.take_succ_cons, List.take_zero, List.drop_succ_cons, List.drop_zero]
  repeat (with_reducible refine wpStill_step (fun K hK => ?_); go_simp; with_reducible refine hK _ ?_; clear hK K)
  with_reducible refine wpStill_step (fun K hK => ?_)
  go_simp
  refine ⟨_, Of_still _ _, hK _ ?_⟩
  clear hK K
  repeat (with_reducible refine wpStill_step (fun K hK => ?_); go_simp; with_reducible refine hK _ ?_; clear hK K)
  with_reducible refine wpStill_nil ?_
  change wpList _ _ _ _ _ w.drew
  go_wp2
  go_end0
  rw [← HP.out]
  exact ⟨rfl, (H.out.set_pc _ (by unfold jumpF; omega) (by unfold jumpF; omega)).then_below (below_drew1 (Below.refl _ _))⟩
theorem regs16 {l : List Int} (h : l.length = 16) : ∃ r0 r1 r2 r3 r4 r5 r6 r7 r8 r9 r10 r11 r12 r13 r14 r15, l = [r0, r1, r2, r3, r4, r5, r6, r7, r8, r9, r10, r11, r12, r13, r14, r15] := by
  match l, h with
  | [r0, r1, r2, r3, r4, r5, r6, r7, r8, r9, r10, r11, r12, r13, r14, r15], _ => exact ⟨r0, r1, r2, r3, r4, r5, r6, r7, r8, r9, r10, r11, r12, r13, r14, r15, rfl⟩
theorem results_cell1 {fn : Func} {p : Tmp} {ty : TypeId} (h : fn.results = #[.cell p ty]) (tmps : Array Value) (P : Program) (w w' : World) (a : Addr) (v : Value) (ha : tmps.getD p undef = .pointer (some a)) (hv : (loadVar ty a).run P w = .ok v w') : (results fn tmps).run P w = .ok v w' := by
  rw [Array.getD_eq_getD_getElem?] at ha
  simp only [results, h]
  simp [Sem.run_bind, Result.andThen, ha, asAddr, hv]
def stateV (S : Cpu) : Value := .agg (([.int .u32 S.pc] : List Value) ++ (S.regs.map (Value.int .u32 ·) ++ ([.int .i64 S.steps] : List Value))).toArray
set_option maxHeartbeats 4000000 in
set_option maxRecDepth 100000 in
theorem State_calls (h : EM w c pg ps S inp out) : Calls Tryd.prog 18 #[.pointer (some ⟨c, 0, none⟩)] w fun e w' => e = .returned (stateV S) ∧ Below w.heap.size w w' := by
  have H := Aside0.mk h
  obtain ⟨r0, r1, r2, r3, r4, r5, r6, r7, r8, r9, r10, r11, r12, r13, r14, r15, hr⟩ := regs16 h.nreg
  have hC : ∀ i, i < 24 → (w.alloc (.cells #[.int .u32 0, .int .u32 0, .int .u32 0, .int .u32 0, .int .u32 0, .int .u32 0, .int .u32 0, .int .u32 0, .int .u32 0, .int .u32 0, .int .u32 0, .int .u32 0, .int .u32 0, .int .u32 0, .int .u32 0, .int .u32 0, .int .u32 0, .int .i64 0] 48)).cell? ⟨c, i, none⟩ = (cpuRow pg S)[i]? := fun i _ => cpu_cell (blk_alloc h.head _) i
  unfold stateV
  rw [hr]
  unfold cpuRow at hC
  rw [hr] at hC
  have k2 := hC 2 (by omega)
  have k3 := hC 3 (by omega)
  have k4 := hC 4 (by omega)
  have k5 := hC 5 (by omega)
  have k6 := hC 6 (by omega)
  have k7 := hC 7 (by omega)
  have k8 := hC 8 (by omega)
  have k9 := hC 9 (by omega)
  have k10 := hC 10 (by omega)
  have k11 := hC 11 (by omega)
  have k12 := hC 12 (by omega)
  have k13 := hC 13 (by omega)
  have k14 := hC 14 (by omega)
  have k15 := hC 15 (by omega)
  have k16 := hC 16 (by omega)
  have k17 := hC 17 (by omega)
  have k18 := hC 18 (by omega)
  have k19 := hC 19 (by omega)
  clear h hC hr
  generalize S.pc = pc at *
  generalize S.steps = st at *
  go_enter Tryd.func18, Tryd.ntmps18
  go_wp2_with (first | (go_at_call 27; refine (alive_yes (H.out.below (by first | assumption | (repeat (first | (with_reducible exact Below.refl _ _) | (with_reducible assumption) | with_reducible apply below_alloc | with_reducible apply pw_below_drewN | with_reducible apply below_drew1))))).mono ?_; rintro e w' ⟨rfl, rfl⟩) | (refine wpList_store_row rfl 48 _ _ rfl _ _ rfl rfl 48 _ (heap_alloc_last w _) (by as_aux_lemma => kernel_rfl) (by as_aux_lemma => kernel_rfl) (by as_aux_lemma => kernel_rfl) ?_; rw [World.setRow_alloc_new]))
  (try simp only [Exit.inBlock, Exit.then])
  refine bodyPost_ret (results_cell1 (p := 2) (ty := 48) rfl _ _ _ _ ⟨w.heap.size, 0, none⟩ _ (by rfl) (run_loadVar_row _ w.heap.size 48 48 _ (0, 0) _ (heap_at _ _ _ rfl) Tryd.underlying48 (by rfl) (by kernel_rfl))) rfl ?_
  exact ⟨rfl, by (repeat (first | (with_reducible exact Below.refl _ _) | (with_reducible assumption) | with_reducible apply below_alloc | with_reducible apply pw_below_drewN | with_reducible apply below_drew1))⟩
end Go.Proofs.YtejhnlljddjicaaDoor.Ma
namespace Go.Proofs.YtejhnlljddjicaaDoor.Ma
open Go.RowKit Go.Proofs.YtejhnlljddjicaaDoor.PEm Go.Proofs.YtejhnlljddjicaaDoorW.PrintWords Go.Proofs.YtejhnlljddjicaaDoorW.PrintLast Go.Proofs.YtejhnlljddjicaaDoorW.PrintMore
set_option linter.unusedVariables false
set_option linter.unusedSimpArgs false
variable {w w' : World} {c pg : Nat} {ps ps' : Pages} {S S' : Cpu} {inp out inp' out' : List Int}
theorem blocks_set : ∀ (ps : Pages) (k g : Nat) (bs : List Int), ps[k]? = some none → (blocks (ps.set k (some (g, bs)))).Perm (g :: blocks ps)
  | [], k, g, bs, h => by simp at h
  | p :: ps, 0, g, bs, h => by
    simp only [List.getElem?_cons_zero, Option.some.injEq] at h
    subst h
    simp [blocks]
  | p :: ps, k + 1, g, bs, h => by
    have ih := blocks_set ps k g bs (by simpa using h)
    simp only [List.set_cons_succ]
    cases p with
    | none => simpa [blocks] using ih
    | some q =>
      have : blocks (some q :: ps.set k (some (g, bs))) = q.1 :: blocks (ps.set k (some (g, bs))) := by simp [blocks]
      rw [this]
      have h2 : blocks (some q :: ps) = q.1 :: blocks ps := by simp [blocks]
      rw [h2]
      exact (List.Perm.cons _ ih).trans (List.Perm.swap _ _ _)
/-- The page of noughts. -/
def zpage : List Int := List.replicate 4096 0
theorem EM.newpage (h : EM w c pg ps S inp out) (k : Nat) (hk : ps[k]? = some none) :
    Did w ((w.alloc (.cells (byteRow zpage) 5)).setCell ⟨pg, k, none⟩ (.slice (some ⟨w.heap.size, 0, none⟩) 4096 4096)) c pg ps S (ps.set k (some (w.heap.size, zpage))) S inp out := by
  have hnd := h.nodup
  have hlt := h.foot_lt
  have xE : Ext (fun i => i = pg) w ((w.alloc (.cells (byteRow zpage) 5)).setCell ⟨pg, k, none⟩ (.slice (some ⟨w.heap.size, 0, none⟩) 4096 4096)) :=
    Ext.setCell (F := fun i => i = pg) (p := ⟨pg, k, none⟩) (Ext.of_below (below_alloc (Below.refl _ _) _)) (Or.inl rfl) _
  have hpg : pg < w.heap.size := lt_of_at h.pages
  have hnp : ∀ i ∈ c :: (blocks ps ++ S.outV.ownBlock.toList), ¬ i = pg := by
    intro i hi e
    subst e
    unfold foot at hnd
    rw [List.nodup_cons] at hnd
    rcases List.mem_cons.1 hi with e | e
    · exact hnd.1 (e ▸ List.mem_cons_self)
    · exact (List.nodup_cons.1 hnd.2).1 e
  have hperm : (foot c pg (ps.set k (some (w.heap.size, zpage))) S).Perm (w.heap.size :: foot c pg ps S) := by
    unfold foot
    have h1 := (blocks_set ps k w.heap.size zpage hk).append_right S.outV.ownBlock.toList
    exact ((h1.cons pg).cons c).trans ((List.Perm.cons c (List.Perm.swap _ _ _)).trans (List.Perm.swap _ _ _))
  refine ⟨⟨xE.at h.head (hnp c (by simp)), h.nreg, h.regIn, h.pcIn, h.codeIn, ?_, by simp [h.npg], ?_, ?_, ?_, ?_⟩, xE.mono (fun i hi => by subst hi; simp [foot]), fun i hi => ?_⟩
  · refine blk_put (blk_alloc h.pages _) k _ ?_
    apply Array.ext'
    simp [List.map_set, pgVal]
  · intro g bs hm
    rcases List.mem_or_eq_of_mem_set hm with hm | hm
    · obtain ⟨h1, h2⟩ := h.page g bs hm
      refine ⟨xE.at h1 (hnp g ?_), h2⟩
      simp only [List.mem_cons, List.mem_append, blocks, List.mem_filterMap]
      exact .inr (.inl ⟨_, hm, rfl⟩)
    · simp only [Option.some.injEq, Prod.mk.injEq] at hm
      obtain ⟨rfl, rfl⟩ := hm
      refine ⟨blk_far (heap_at _ _ _ rfl) (by simp; omega) _, by rw [zpage, List.length_replicate], ?_⟩
      intro b hb
      have := List.eq_of_mem_replicate hb
      omega
  · refine hperm.nodup_iff.2 (List.nodup_cons.2 ⟨fun hi => absurd (hlt _ hi) (by omega), hnd⟩)
  · obtain ⟨A, cap, e1, hl, hC, hA⟩ := h.inS
    refine ⟨A, cap, e1, hl, ?_, fun ad ha => ⟨fun hi => ?_, Nat.lt_of_lt_of_le (hA ad ha).2 xE.size⟩⟩
    · refine ⟨hC.1, hC.2.1, fun h0 => ?_⟩
      obtain ⟨ad, ha, hx⟩ := hC.2.2 h0
      refine ⟨ad, ha, fun j p hj => ?_⟩
      obtain ⟨cs, h1, h2, h3⟩ := hx j p hj
      refine ⟨cs, h1, h2, fun q v hq => ?_⟩
      have hb := xE.block ad.block (hA ad ha).2 (fun e2 => (hA ad ha).1 (by rw [e2]; simp [foot]))
      have := h3 q v hq
      have hbl : (ad.add (j * (Kd.int .u8).sz + q)).block = ad.block := by unfold Addr.add; split <;> rfl
      unfold World.cell? at this ⊢
      rw [hbl] at this ⊢
      rw [hb]; exact this
    · rcases List.mem_cons.1 (hperm.mem_iff.1 hi) with e | e
      · have := (hA ad ha).2; omega
      · exact (hA ad ha).1 e
  · obtain ⟨base, hR⟩ := h.outS
    refine ⟨base, Kd.R_mono (Kd.R_step (Kd.R_tight rfl hR) (fun j hj hlt => xE.block j hlt (hnp j ?_))) (fun _ _ => trivial)⟩
    simp only [List.mem_cons, List.mem_append]
    exact .inr (.inr (by simp [← hj]))
  · rcases List.mem_cons.1 (hperm.mem_iff.1 hi) with e | e
    · exact .inr (by omega)
    · exact .inl e
end Go.Proofs.YtejhnlljddjicaaDoor.Ma
namespace Go.Proofs.YtejhnlljddjicaaDoor.Ma
open Go.RowKit Go.Proofs.YtejhnlljddjicaaDoor.PEm Go.Proofs.YtejhnlljddjicaaDoorW.PrintWords Go.Proofs.YtejhnlljddjicaaDoorW.PrintLast Go.Proofs.YtejhnlljddjicaaDoorW.PrintMore
set_option linter.unusedVariables false
set_option linter.unusedSimpArgs false
variable {w w' : World} {c pg : Nat} {ps ps' : Pages} {S S' : Cpu} {inp out inp' out' : List Int}
theorem eq22 (W : World) : (binOp .eql 22 (.slice none 0 0) (.slice none 0 0)).run Tryd.prog W = .ok (.bool true) W := by kernel_rfl
theorem ne22 (W : World) (ad : Addr) (n c : Nat) : (binOp .eql 22 (.slice (some ad) n c) (.slice none 0 0)).run Tryd.prog W = .ok (.bool false) W := by kernel_rfl
theorem EM.pgcell (h : EM w c pg ps S inp out) (k : Nat) : w.cell? ⟨pg, k, none⟩ = (ps[k]?).map pgVal := by rw [blk_cell h.pages, List.getElem?_toArray, List.getElem?_map]
set_option maxHeartbeats 4000000 in
set_option maxRecDepth 100000 in
theorem page_there (h : EM w c pg ps S inp out) (a : Int) (h0 : 0 ≤ a) (h1 : a < 8388608) {g : Nat} {bs : List Int} (hk : ps[(a / 4096).toNat]? = some (some (g, bs))) : Calls Tryd.prog 35 #[.pointer (some ⟨c, 0, none⟩), .int .i64 a] w fun e w' => e = .returned (.slice (some ⟨g, 0, none⟩) 4096 4096) ∧ w' = w := by
  have c0 := h.k0
  have c1 := h.pgcell (a / 4096).toNat
  rw [hk] at c1
  simp only [Option.map_some, pgVal] at c1
  have e1 := ne22
  have hb0 : 0 ≤ a / 4096 := by omega
  have hb1 : a / 4096 < 2048 := by omega
  clear h hk
  go_enter Tryd.func35, Tryd.ntmps35
  go_wp2
  go_ret
  exact ⟨rfl, rfl⟩
theorem info5 : ∃ i, Tryd.prog.info? 5 = some i ∧ i.zero = some (.int .u8 0) ∧ i.size = 1 ∧ i.bytes = 1 := by
  have h : (Tryd.prog.info? 5).map (fun i => (i.zero, i.size, i.bytes)) = some (some (.int .u8 0), 1, 1) := by kernel_rfl
  cases hi : Tryd.prog.info? 5 with
  | none => rw [hi] at h; cases h
  | some i => rw [hi] at h; simp only [Option.map_some, Option.some.injEq, Prod.mk.injEq] at h; exact ⟨i, rfl, h⟩
theorem made_bytes (n : Nat) : madeCells #[.int .u8 0] (n * 1) = byteRow (List.replicate n 0) := by
  apply Array.ext
  · simp [madeCells, byteRow]
  · intro i h1 h2
    simp [madeCells, byteRow, Nat.mod_one]
theorem run_make5 (n : Int) (h1 : 0 ≤ n) (h2 : n ≤ 281474976710656) (W : World) : (Instr.makeSlice 22 (.int .i64 n) (.int .i64 n)).run Tryd.prog W = .ok (.slice (some ⟨W.heap.size, 0, none⟩) n.toNat n.toNat) (W.alloc (.cells (byteRow (List.replicate n.toNat 0)) 5)) := by
  obtain ⟨i, hi, hz, hs, hb⟩ := info5
  rw [run_make W 22 5 i _ Tryd.underlying22 hi hz .i64 .i64 n n h1 (by omega) (by rw [hb]; omega) (by omega), hs]
  rw [show (Value.int .u8 0).cells = #[.int .u8 0] from rfl, made_bytes]
set_option maxHeartbeats 4000000 in
set_option maxRecDepth 100000 in
theorem page_laid (h : EM w c pg ps S inp out) (a : Int) (h0 : 0 ≤ a) (h1 : a < 8388608) (hk : ps[(a / 4096).toNat]? = some none) : Calls Tryd.prog 35 #[.pointer (some ⟨c, 0, none⟩), .int .i64 a] w fun e w' => e = .returned (.slice (some ⟨w.heap.size, 0, none⟩) 4096 4096) ∧ Did w w' c pg ps S (ps.set (a / 4096).toNat (some (w.heap.size, zpage))) S inp out := by
  have c0 := h.k0
  have c1 := h.pgcell (a / 4096).toNat
  rw [hk] at c1
  simp only [Option.map_some, pgVal] at c1
  have fz := blk_frozen (blk_alloc h.pages (.cells (byteRow zpage) 5)) (a / 4096).toNat
  have e1 := eq22
  have hmk : ∀ W, (Instr.makeSlice 22 (.int .i64 4096) (.int .i64 4096)).run Tryd.prog W = .ok (.slice (some ⟨W.heap.size, 0, none⟩) 4096 4096) (W.alloc (.cells (byteRow zpage) 5)) := fun W => run_make5 4096 (by decide) (by decide) W
  have hb0 : 0 ≤ a / 4096 := by omega
  have hb1 : a / 4096 < 2048 := by omega
  have c2 := pw_cell_below (below_alloc (Below.refl w.heap.size w) (.cells (byteRow zpage) 5)) c1
  have HD := Aside0.mk (h.newpage _ hk)
  clear h hk
  go_enter Tryd.func35, Tryd.ntmps35
  go_wp2
  all_goals go_ret
  all_goals exact ⟨rfl, HD.out⟩
/-- The memory is the same, byte by byte. -/
def SameMem (ps ps' : Pages) : Prop := ∀ a, byteAt ps' a = byteAt ps a
theorem same_laid {k g : Nat} (hk : ps[k]? = some none) : SameMem ps (ps.set k (some (g, zpage))) := by
  intro a
  unfold byteAt
  by_cases e : a / 4096 = k
  · have hl : k < ps.length := (List.getElem?_eq_some_iff.1 hk).1
    rw [e, hk, List.getElem?_set_self hl]
    simp only [zpage]
    rw [List.getElem?_replicate, if_pos (Nat.mod_lt _ (by decide))]; rfl
  · rw [List.getElem?_set_ne (fun h => e h.symm)]
theorem page_calls (h : EM w c pg ps S inp out) (a : Int) (h0 : 0 ≤ a) (h1 : a < 8388608) : Calls Tryd.prog 35 #[.pointer (some ⟨c, 0, none⟩), .int .i64 a] w fun e w' => ∃ g bs ps', e = .returned (.slice (some ⟨g, 0, none⟩) 4096 4096) ∧ Did w w' c pg ps S ps' S inp out ∧ ps'[(a / 4096).toNat]? = some (some (g, bs)) ∧ SameMem ps ps' := by
  have hl : (a / 4096).toNat < ps.length := by rw [h.npg]; omega
  cases hk : ps[(a / 4096).toNat]? with
  | none => rw [List.getElem?_eq_none_iff] at hk; omega
  | some p =>
    cases p with
    | none =>
      refine (page_laid h a h0 h1 hk).mono ?_
      rintro e w' ⟨rfl, d⟩
      exact ⟨_, zpage, _, rfl, d, List.getElem?_set_self hl, same_laid hk⟩
    | some q =>
      obtain ⟨g, bs⟩ := q
      refine (page_there h a h0 h1 hk).mono ?_
      rintro e w' ⟨rfl, rfl⟩
      exact ⟨g, bs, ps, rfl, Did.same h (Below.refl _ _), hk, fun _ => rfl⟩
end Go.Proofs.YtejhnlljddjicaaDoor.Ma
