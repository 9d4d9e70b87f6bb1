/- What package word reckons, as plain functions. No condition. And more of the kind: 16 texts in one. -/
import Derived.Test.YtejhnlljddjicaaJPLkx0
import Derived.Test.YtejhnlljddjicaaJPLkx1
import Derived.Test.YtejhnlljddjicaaJPLkx2
import Derived.Test.YtejhnlljddjicaaJPLkx3
import Derived.Test.YtejhnlljddjicaaJPLkx4
import Derived.Test.YtejhnlljddjicaaJPLkx5
import Derived.Test.YtejhnlljddjicaaJPLkx6
import Derived.Test.YtejhnlljddjicaaJPLkx7
import Derived.Test.YtejhnlljddjicaaJPLkx8
import Derived.Test.YtejhnlljddjicaaJPLkx9
import Derived.Deep.WholeRow
import Derived.Deep.Cut
import Derived.StillTailTactics
set_option linter.unusedVariables false
namespace Go.Proofs.Ytejhnlljddjicaa.PLk
open Go.RowKit Go.Proofs.YtejhnlljddjicaaW.PrintWords
def word_divided.f (a0 : Int) (a1 : Int) (a2 : Int) : Option (Int) := if a0 = 5 then (if a2 = 0 then (none) else (some ((Int.tdiv a1 a2) % 4294967296))) else (if a0 = 7 then (if a2 = 0 then (none) else (some (Int.tmod a1 a2))) else (if a0 = 6 then (if (wrap64 (wrap32 (a2))) = 0 then (none) else (some ((Int.tmod (wrap64 (wrap32 (a1))) (wrap64 (wrap32 (a2)))) % 4294967296))) else (if (wrap64 (wrap32 (a2))) = 0 then (none) else (some ((wrap64 (Int.tdiv (wrap64 (wrap32 (a1))) (wrap64 (wrap32 (a2))))) % 4294967296)))))
def word_flag.f (a0 : Bool) : Option (Int) := if a0 = true then (some 1) else (some 0)
def word_Bin.j0 : Nat → Int → Int → Int → Int → Int → Int → Bool → Option (Int × Bool)
 | 0, _, _, _, _, _, _, _ => none
 | k + 1, x0, x1, x2, x8, x9, x14, x15 => if x15 = true then (if x2 = 0 then (some (0, false)) else ((word_divided.f x0 x1 x2).bind fun t116 => (some (t116, true)))) else (if x14 = 1 then (some ((x1 + x2) % 4294967296, true)) else (if x14 = 2 then (some ((x1 - x2) % 4294967296, true)) else (if x14 = 3 then (some ((x1 * x2) % 4294967296, true)) else (if x14 = 8 then (some (Go.bits .and .u32 x1 x2, true)) else (if x14 = 9 then (some (Go.bits .or .u32 x1 x2, true)) else (if x14 = 10 then (some (Go.bits .xor .u32 x1 x2, true)) else (if x14 = 11 then (if 0 ≤ (Go.bits .and .u32 x2 31) then (some (shl .u32 x1 (Go.bits .and .u32 x2 31), true)) else (none)) else (if x14 = 12 then (if 0 ≤ (Go.bits .and .u32 x2 31) then (some ((shr .i32 x8 (Go.bits .and .u32 x2 31)) % 4294967296, true)) else (none)) else (if x14 = 13 then (if 0 ≤ (Go.bits .and .u32 x2 31) then (some (shr .u32 x1 (Go.bits .and .u32 x2 31), true)) else (none)) else (if x14 = 14 then ((word_flag.f (x1 == x2)).bind fun t117 => (some (t117, true))) else (if x14 = 15 then ((word_flag.f (x1 != x2)).bind fun t118 => (some (t118, true))) else (if x14 = 16 then ((word_flag.f (decide (x8 < x9))).bind fun t119 => (some (t119, true))) else (if x14 = 17 then ((word_flag.f (decide (x1 < x2))).bind fun t120 => (some (t120, true))) else (if x14 = 18 then ((word_flag.f (decide (x8 ≤ x9))).bind fun t121 => (some (t121, true))) else (if x14 = 19 then ((word_flag.f (decide (x1 ≤ x2))).bind fun t122 => (some (t122, true))) else (some (0, false)))))))))))))))))
def word_Bin.f (k : Nat) (a0 : Int) (a1 : Int) (a2 : Int) : Option (Int × Bool) := if a0 = 4 then (word_Bin.j0 k a0 a1 a2 (wrap32 (a1)) (wrap32 (a2)) a0 (a0 == 4)) else (if a0 = 5 then (word_Bin.j0 k a0 a1 a2 (wrap32 (a1)) (wrap32 (a2)) a0 (a0 == 5)) else (if a0 = 6 then (word_Bin.j0 k a0 a1 a2 (wrap32 (a1)) (wrap32 (a2)) a0 (a0 == 6)) else (word_Bin.j0 k a0 a1 a2 (wrap32 (a1)) (wrap32 (a2)) a0 (a0 == 7))))
end Go.Proofs.Ytejhnlljddjicaa.PLk
namespace Go.Proofs.Ytejhnlljddjicaa.Ma
theorem cell_lt {w : World} {a : Addr} {v : Value} (h : w.cell? a = some v) : a.block < w.heap.size := by
  rcases Nat.lt_or_ge a.block w.heap.size with h1 | h1
  · exact h1
  · simp [World.cell?, Array.getElem?_eq_none h1] at h
end Go.Proofs.Ytejhnlljddjicaa.Ma
namespace Go.Proofs.Ytejhnlljddjicaa.Ma
open Go.RowKit Go.Proofs.Ytejhnlljddjicaa.PLk Go.Proofs.YtejhnlljddjicaaW.PrintWords Go.Proofs.YtejhnlljddjicaaW.PrintLast Go.Proofs.YtejhnlljddjicaaW.PrintMore
set_option linter.unusedVariables false
set_option linter.unusedSimpArgs false

/-- All blocks but those of F are as they were; the streams are. -/
structure Ext (F : Nat → Prop) (w w' : World) : Prop where
  os : w'.os = w.os
  tape : w'.tape = w.tape
  output : w'.output = w.output
  size : w.heap.size ≤ w'.heap.size
  block : ∀ k, k < w.heap.size → ¬ F k → w'.heap[k]? = w.heap[k]?
theorem Ext.refl (F : Nat → Prop) (w : World) : Ext F w w := ⟨rfl, rfl, rfl, Nat.le_refl _, fun _ _ _ => rfl⟩
theorem Ext.trans {F G : Nat → Prop} {a b c : World} (h : Ext F a b) (k : Ext G b c) (hg : ∀ i, i < a.heap.size → G i → F i) : Ext F a c :=
  ⟨k.os.trans h.os, k.tape.trans h.tape, k.output.trans h.output, Nat.le_trans h.size k.size, fun i hi hf => (k.block i (Nat.lt_of_lt_of_le hi h.size) (fun g => hf (hg i hi g))).trans (h.block i hi hf)⟩
theorem Ext.mono {F G : Nat → Prop} {a b : World} (h : Ext F a b) (hg : ∀ i, F i → G i) : Ext G a b := ⟨h.os, h.tape, h.output, h.size, fun i hi hf => h.block i hi (fun f => hf (hg i f))⟩
theorem Ext.of_below {F : Nat → Prop} {w w' : World} (h : Below w.heap.size w w') : Ext F w w' := ⟨h.os, h.tape, h.output, h.size, fun i hi _ => h.block i hi⟩
theorem Ext.below_of {F : Nat → Prop} {B : Nat} {w w' : World} (h : Ext F w w') (hB : B ≤ w.heap.size) (hF : ∀ i, F i → B ≤ i) : Below B w w' :=
  ⟨h.os, h.tape, h.output, h.size, fun i hi => h.block i (Nat.lt_of_lt_of_le hi hB) (fun f => absurd (hF i f) (by omega))⟩
theorem Ext.then_below {F : Nat → Prop} {a b c : World} (h : Ext F a b) (k : Below b.heap.size b c) : Ext F a c :=
  h.trans (Ext.of_below (F := fun _ => False) k) (fun _ _ f => f.elim)
theorem Ext.setCell {F : Nat → Prop} {w W : World} (h : Ext F w W) {p : Addr} (hp : F p.block ∨ w.heap.size ≤ p.block) (u : Value) : Ext F w (W.setCell p u) :=
  ⟨h.os, h.tape, h.output, by simpa [World.setCell] using h.size, fun i hi hf => (Below.heap_setCell W p u i (fun e => hp.elim (fun f => hf (e ▸ f)) (fun g => absurd hi (by omega)))).trans (h.block i hi hf)⟩
theorem Ext.at {F : Nat → Prop} {w W : World} (h : Ext F w W) {k : Nat} {o : Obj} (hk : w.heap[k]? = some o) (hf : ¬ F k) : W.heap[k]? = some o :=
  (h.block k (Array.getElem?_eq_some_iff.1 hk).1 hf).trans hk
theorem pm_chain {w W w' : World} (h : Below w.heap.size w W) (k : Below W.heap.size W w') : Below w.heap.size w w' := below_then h h.size k
theorem lt_of_at {w : World} {k : Nat} {o : Obj} (h : w.heap[k]? = some o) : k < w.heap.size := (Array.getElem?_eq_some_iff.1 h).1
theorem heap_at (W : World) (o : Obj) (n : Nat) (h : n = W.heap.size) : (W.alloc o).heap[n]? = some o := by subst h; exact heap_alloc_last W o

/-- What a machine's own cells hold. -/
structure Cpu where
  code : Int
  pc : Int
  regs : List Int
  steps : Int
  inV : Value
  outV : Value
  ended : Int
  exit : Int
/-- The pages: none, or where its bytes lie and the bytes. -/
abbrev Pages := List (Option (Nat × List Int))
def pgVal : Option (Nat × List Int) → Value
  | none => .slice none 0 0
  | some (g, _) => .slice (some ⟨g, 0, none⟩) 4096 4096
def byteRow (bs : List Int) : Array Value := (bs.map (.int .u8 ·)).toArray
def blocks (ps : Pages) : List Nat := ps.filterMap fun p => p.map (·.1)
/-- The blocks that a machine writes. -/
def foot (c pg : Nat) (ps : Pages) (S : Cpu) : List Nat := c :: pg :: (blocks ps ++ S.outV.ownBlock.toList)
/-- A byte of the memory. -/
def byteAt (ps : Pages) (a : Nat) : Int := match ps[a / 4096]? with
  | some (some (_, bs)) => (bs[a % 4096]?).getD 0
  | _ => 0
variable {w w' : World} {c pg : Nat} {ps : Pages} {S : Cpu} {inp out : List Int}
end Go.Proofs.Ytejhnlljddjicaa.Ma
namespace Go.Proofs.Ytejhnlljddjicaa.Ma
open Go.RowKit Go.Proofs.Ytejhnlljddjicaa.PLk Go.Proofs.YtejhnlljddjicaaW.PrintWords Go.Proofs.YtejhnlljddjicaaW.PrintLast Go.Proofs.YtejhnlljddjicaaW.PrintMore
set_option linter.unusedVariables false
set_option linter.unusedSimpArgs false
variable {w w' : World} {c pg : Nat} {ps : Pages} {S : Cpu} {inp out : List Int}
/-- Why an access is none: the trap's number; 0: it is one. -/
def mayF (code i n : Int) (wr : Bool) : Int := if i % n ≠ 0 then 1 else if i < 4096 ∨ 8388608 - n < i ∨ (wr = true ∧ i < 4096 + code) then 2 else 0
def errT (n : Int) : Value := if n = 0 then .nilIface else .iface 77 (.agg #[.int .i64 n])
end Go.Proofs.Ytejhnlljddjicaa.Ma
namespace Go.Proofs.Ytejhnlljddjicaa.Ma
open Go.RowKit Go.Proofs.Ytejhnlljddjicaa.PLk Go.Proofs.YtejhnlljddjicaaW.PrintWords Go.Proofs.YtejhnlljddjicaaW.PrintLast Go.Proofs.YtejhnlljddjicaaW.PrintMore
set_option linter.unusedVariables false
set_option linter.unusedSimpArgs false
variable {w w' : World} {c pg : Nat} {ps ps' : Pages} {S S' : Cpu} {inp out inp' out' : List Int}
def jumpF (pc n : Int) : Int := (pc + (4 * n) % 4294967296) % 4294967296
theorem regs16 {l : List Int} (h : l.length = 16) : ∃ r0 r1 r2 r3 r4 r5 r6 r7 r8 r9 r10 r11 r12 r13 r14 r15, l = [r0, r1, r2, r3, r4, r5, r6, r7, r8, r9, r10, r11, r12, r13, r14, r15] := by
  match l, h with
  | [r0, r1, r2, r3, r4, r5, r6, r7, r8, r9, r10, r11, r12, r13, r14, r15], _ => exact ⟨r0, r1, r2, r3, r4, r5, r6, r7, r8, r9, r10, r11, r12, r13, r14, r15, rfl⟩
theorem results_cell1 {fn : Func} {p : Tmp} {ty : TypeId} (h : fn.results = #[.cell p ty]) (tmps : Array Value) (P : Program) (w w' : World) (a : Addr) (v : Value) (ha : tmps.getD p undef = .pointer (some a)) (hv : (loadVar ty a).run P w = .ok v w') : (results fn tmps).run P w = .ok v w' := by
  rw [Array.getD_eq_getD_getElem?] at ha
  simp only [results, h]
  simp [Sem.run_bind, Result.andThen, ha, asAddr, hv]
end Go.Proofs.Ytejhnlljddjicaa.Ma
namespace Go.Proofs.Ytejhnlljddjicaa.Ma
open Go.RowKit Go.Proofs.Ytejhnlljddjicaa.PLk Go.Proofs.YtejhnlljddjicaaW.PrintWords Go.Proofs.YtejhnlljddjicaaW.PrintLast Go.Proofs.YtejhnlljddjicaaW.PrintMore
set_option linter.unusedVariables false
set_option linter.unusedSimpArgs false
variable {w w' : World} {c pg : Nat} {ps ps' : Pages} {S S' : Cpu} {inp out inp' out' : List Int}
theorem blocks_set : ∀ (ps : Pages) (k g : Nat) (bs : List Int), ps[k]? = some none → (blocks (ps.set k (some (g, bs)))).Perm (g :: blocks ps)
  | [], k, g, bs, h => by simp at h
  | p :: ps, 0, g, bs, h => by
    simp only [List.getElem?_cons_zero, Option.some.injEq] at h
    subst h
    simp [blocks]
  | p :: ps, k + 1, g, bs, h => by
    have ih := blocks_set ps k g bs (by simpa using h)
    simp only [List.set_cons_succ]
    cases p with
    | none => simpa [blocks] using ih
    | some q =>
      have : blocks (some q :: ps.set k (some (g, bs))) = q.1 :: blocks (ps.set k (some (g, bs))) := by simp [blocks]
      rw [this]
      have h2 : blocks (some q :: ps) = q.1 :: blocks ps := by simp [blocks]
      rw [h2]
      exact (List.Perm.cons _ ih).trans (List.Perm.swap _ _ _)
/-- The page of noughts. -/
def zpage : List Int := List.replicate 4096 0
end Go.Proofs.Ytejhnlljddjicaa.Ma
namespace Go.Proofs.Ytejhnlljddjicaa.Ma
open Go.RowKit Go.Proofs.Ytejhnlljddjicaa.PLk Go.Proofs.YtejhnlljddjicaaW.PrintWords Go.Proofs.YtejhnlljddjicaaW.PrintLast Go.Proofs.YtejhnlljddjicaaW.PrintMore
set_option linter.unusedVariables false
set_option linter.unusedSimpArgs false
variable {w w' : World} {c pg : Nat} {ps ps' : Pages} {S S' : Cpu} {inp out inp' out' : List Int}
theorem info5 : ∃ i, Try.prog.info? 5 = some i ∧ i.zero = some (.int .u8 0) ∧ i.size = 1 ∧ i.bytes = 1 := by
  have h : (Try.prog.info? 5).map (fun i => (i.zero, i.size, i.bytes)) = some (some (.int .u8 0), 1, 1) := by kernel_rfl
  cases hi : Try.prog.info? 5 with
  | none => rw [hi] at h; cases h
  | some i => rw [hi] at h; simp only [Option.map_some, Option.some.injEq, Prod.mk.injEq] at h; exact ⟨i, rfl, h⟩
theorem made_bytes (n : Nat) : madeCells #[.int .u8 0] (n * 1) = byteRow (List.replicate n 0) := by
  apply Array.ext
  · simp [madeCells, byteRow]
  · intro i h1 h2
    simp [madeCells, byteRow, Nat.mod_one]
theorem run_make5 (n : Int) (h1 : 0 ≤ n) (h2 : n ≤ 281474976710656) (W : World) : (Instr.makeSlice 23 (.int .i64 n) (.int .i64 n)).run Try.prog W = .ok (.slice (some ⟨W.heap.size, 0, none⟩) n.toNat n.toNat) (W.alloc (.cells (byteRow (List.replicate n.toNat 0)) 5)) := by
  obtain ⟨i, hi, hz, hs, hb⟩ := info5
  rw [run_make W 23 5 i _ Try.underlying23 hi hz .i64 .i64 n n h1 (by omega) (by rw [hb]; omega) (by omega), hs]
  rw [show (Value.int .u8 0).cells = #[.int .u8 0] from rfl, made_bytes]
/-- The memory is the same, byte by byte. -/
def SameMem (ps ps' : Pages) : Prop := ∀ a, byteAt ps' a = byteAt ps a
theorem same_laid {k g : Nat} (hk : ps[k]? = some none) : SameMem ps (ps.set k (some (g, zpage))) := by
  intro a
  unfold byteAt
  by_cases e : a / 4096 = k
  · have hl : k < ps.length := (List.getElem?_eq_some_iff.1 hk).1
    rw [e, hk, List.getElem?_set_self hl]
    simp only [zpage]
    rw [List.getElem?_replicate, if_pos (Nat.mod_lt _ (by decide))]; rfl
  · rw [List.getElem?_set_ne (fun h => e h.symm)]
end Go.Proofs.Ytejhnlljddjicaa.Ma
namespace Go.Proofs.Ytejhnlljddjicaa.La
open Go.RowKit Go.Proofs.Ytejhnlljddjicaa.PLk Go.Proofs.YtejhnlljddjicaaW.PrintWords Go.Proofs.YtejhnlljddjicaaW.PrintLast Go.Proofs.YtejhnlljddjicaaW.PrintMore

theorem wrap3264 (a : Int) : wrap64 (wrap32 a) = wrap32 a := by unfold wrap64 wrap32; omega
theorem pow_pos (n : Nat) : (0 : Int) < 2 ^ n := Int.pow_pos (by decide)
theorem wraps_u32 (n : Int) (h₀ : 0 ≤ n) (h₁ : n < 2 ^ 32) : IntKind.u32.wrap n = n := by rw [IntKind.wrap_u32]; omega
theorem and31 (b : Int) (h0 : 0 ≤ b) (h1 : b < 4294967296) : bits .and .u32 b 31 = b % 32 := bits_mask .u32 32 (by decide) wraps_u32 5 (by decide) b h0 h1
theorem tmod32 (b : Int) (h0 : 0 ≤ b) : Int.tmod b 32 = b % 32 := Int.tmod_eq_emod_of_nonneg h0
theorem shl32 (a m : Int) (hm : m < 32) : shl .u32 a m = (a * 2 ^ m.toNat) % 4294967296 := by
  unfold shl; rw [Nat.min_eq_left (by simp [IntKind.bits]; omega), IntKind.wrap_u32]
theorem shr32 (a m : Int) (hm : m < 32) : shr .u32 a m = a / 2 ^ m.toNat := by
  unfold shr; rw [Nat.min_eq_left (by simp [IntKind.bits]; omega)]
theorem shri32 (a m : Int) (hm : m < 32) : shr .i32 a m = a / 2 ^ m.toNat := by
  unfold shr; rw [Nat.min_eq_left (by simp [IntKind.bits]; omega)]
/-! The operations of 'word.Bin'. -/
theorem bin_add (k : Nat) (a b : Int) : word_Bin.f (k + 1) 1 a b = some ((a + b) % 4294967296, true) := by simp [word_Bin.f, word_Bin.j0]
theorem bin_sub (k : Nat) (a b : Int) : word_Bin.f (k + 1) 2 a b = some ((a - b) % 4294967296, true) := by simp [word_Bin.f, word_Bin.j0]
theorem bin_mul (k : Nat) (a b : Int) : word_Bin.f (k + 1) 3 a b = some ((a * b) % 4294967296, true) := by simp [word_Bin.f, word_Bin.j0]
theorem bin_and (k : Nat) (a b : Int) : word_Bin.f (k + 1) 8 a b = some (bits .and .u32 a b, true) := by simp [word_Bin.f, word_Bin.j0]
theorem bin_or (k : Nat) (a b : Int) : word_Bin.f (k + 1) 9 a b = some (bits .or .u32 a b, true) := by simp [word_Bin.f, word_Bin.j0]
theorem bin_xor (k : Nat) (a b : Int) : word_Bin.f (k + 1) 10 a b = some (bits .xor .u32 a b, true) := by simp [word_Bin.f, word_Bin.j0]
theorem bin_shl (k : Nat) (a b : Int) (h0 : 0 ≤ b) (h1 : b < 4294967296) : word_Bin.f (k + 1) 11 a b = some ((a * 2 ^ (b % 32).toNat) % 4294967296, true) := by
  simp [word_Bin.f, word_Bin.j0, and31 b h0 h1, shl32 a (b % 32) (by omega)]; omega
theorem bin_shrs (k : Nat) (a b : Int) (h0 : 0 ≤ b) (h1 : b < 4294967296) : word_Bin.f (k + 1) 12 a b = some ((wrap32 a / 2 ^ (b % 32).toNat) % 4294967296, true) := by
  simp [word_Bin.f, word_Bin.j0, and31 b h0 h1, shri32 _ (b % 32) (by omega)]; omega
theorem bin_shru (k : Nat) (a b : Int) (h0 : 0 ≤ b) (h1 : b < 4294967296) : word_Bin.f (k + 1) 13 a b = some (a / 2 ^ (b % 32).toNat, true) := by
  simp [word_Bin.f, word_Bin.j0, and31 b h0 h1, shr32 a (b % 32) (by omega)]; omega
theorem bin_divu (k : Nat) (a b : Int) (hb : b ≠ 0) : word_Bin.f (k + 1) 5 a b = some ((Int.tdiv a b) % 4294967296, true) := by simp [word_Bin.f, word_Bin.j0, word_divided.f, hb]
def bvOf (a : Int) : BitVec 32 := BitVec.ofInt 32 a
def back (A : BitVec 32) : Int := A.toNat
theorem back_lt (A : BitVec 32) : 0 ≤ back A ∧ back A < 4294967296 := by
  unfold back; have := A.isLt; omega
theorem wrap_back (A : BitVec 32) : IntKind.u32.wrap (A.toNat : Int) = back A := by
  rw [IntKind.wrap_u32]; have := back_lt A; unfold back at *; omega
theorem and_bv (a b : Int) : bits .and .u32 a b = back (bvOf a &&& bvOf b) := wrap_back _
theorem or_bv (a b : Int) : bits .or .u32 a b = back (bvOf a ||| bvOf b) := wrap_back _
theorem xor_bv (a b : Int) : bits .xor .u32 a b = back (bvOf a ^^^ bvOf b) := wrap_back _
theorem back_of (a : Int) (h0 : 0 ≤ a) (h1 : a < 4294967296) : back (bvOf a) = a := by
  obtain ⟨n, rfl⟩ := Int.eq_ofNat_of_zero_le h0
  unfold bvOf back; rw [BitVec.ofInt_natCast]; simp; omega
end Go.Proofs.Ytejhnlljddjicaa.La
namespace Go.Proofs.Ytejhnlljddjicaa.La
set_option linter.unusedVariables false
open Go.RowKit Go.Proofs.Ytejhnlljddjicaa.PLk Go.Proofs.YtejhnlljddjicaaW.PrintWords Go.Proofs.YtejhnlljddjicaaW.PrintLast Go.Proofs.YtejhnlljddjicaaW.PrintMore

theorem wrap_u64 (n : Int) : IntKind.u64.wrap n = n % 18446744073709551616 := by simp [IntKind.wrap, IntKind.bits, IntKind.signed]
theorem or_range (a b : Int) : 0 ≤ bits .or .u32 a b ∧ bits .or .u32 a b < 4294967296 := by rw [or_bv]; exact back_lt _
/-- What 'low' answers. -/
def lowv (v : Int) (n : Nat) (s : Bool) : Int :=
  if n = 4 then v else if n = 2 then (if s = true ∧ 32768 ≤ v % 65536 then v % 65536 + 4294901760 else v % 65536)
  else (if s = true ∧ 128 ≤ v % 256 then v % 256 + 4294967040 else v % 256)
theorem and255 (v : Int) (h0 : 0 ≤ v) (h1 : v < 4294967296) : bits .and .u32 v 255 = v % 256 := bits_mask .u32 32 (by decide) wraps_u32 8 (by decide) v h0 h1
theorem and65535 (v : Int) (h0 : 0 ≤ v) (h1 : v < 4294967296) : bits .and .u32 v 65535 = v % 65536 := bits_mask .u32 32 (by decide) wraps_u32 16 (by decide) v h0 h1
theorem or_high8 (y : Int) (h0 : 0 ≤ y) (h1 : y < 256) : bits .or .u32 y 4294967040 = y + 4294967040 := by
  have h := bits_join .u32 32 (by decide) wraps_u32 8 4294967040 y (by decide) (by decide) (by decide) h0 h1 (by omega)
  rw [or_bv] at h ⊢
  rw [BitVec.or_comm, h]; omega
theorem or_high16 (y : Int) (h0 : 0 ≤ y) (h1 : y < 65536) : bits .or .u32 y 4294901760 = y + 4294901760 := by
  have h := bits_join .u32 32 (by decide) wraps_u32 16 4294901760 y (by decide) (by decide) (by decide) h0 h1 (by omega)
  rw [or_bv] at h ⊢
  rw [BitVec.or_comm, h]; omega
theorem ext1 (k : Nat) (v : Int) (s : Bool) (h0 : 0 ≤ v) (h1 : v < 4294967296) : mortiseref01_extended.f (k + 1) v 1 s = some (lowv v 1 s) := by
  have e : IntKind.u64.wrap (wrap64 (8 * 1)) = 8 := by decide +kernel
  have e' : IntKind.u64.wrap (8 - 1) = 7 := by decide
  have e1 : (shl .u32 1 8 - 1) % 4294967296 = 255 := by decide
  have e2 : shl .u32 4294967295 8 = 4294967040 := by decide
  have e3 : shr .u32 (v % 256) 7 = v % 256 / 128 := by rw [shr32 _ 7 (by omega)]; rfl
  simp only [mortiseref01_extended.f, mortiseref01_extended.j0, if_true, e, e', e1, e2, e3, and255 v h0 h1, or_high8 (v % 256) (by omega) (by omega)]
  cases s
  · simp [lowv]
  · by_cases c : 128 ≤ v % 256
    · have hc : v % 256 / 128 = 1 := by omega
      simp [hc, c, lowv]
    · have hc : ¬ v % 256 / 128 = 1 := by omega
      simp [hc, c, lowv]
theorem ext2 (k : Nat) (v : Int) (s : Bool) (h0 : 0 ≤ v) (h1 : v < 4294967296) : mortiseref01_extended.f (k + 1) v 2 s = some (lowv v 2 s) := by
  have e : IntKind.u64.wrap (wrap64 (8 * 2)) = 16 := by decide +kernel
  have e' : IntKind.u64.wrap (16 - 1) = 15 := by decide
  have e1 : (shl .u32 1 16 - 1) % 4294967296 = 65535 := by decide
  have e2 : shl .u32 4294967295 16 = 4294901760 := by decide
  have e3 : shr .u32 (v % 65536) 15 = v % 65536 / 32768 := by rw [shr32 _ 15 (by omega)]; rfl
  simp only [mortiseref01_extended.f, mortiseref01_extended.j0, bne_self_eq_false, e, e', e1, e2, e3, and65535 v h0 h1, or_high16 (v % 65536) (by omega) (by omega)]
  cases s
  · simp [lowv]
  · by_cases c : 32768 ≤ v % 65536
    · have hc : v % 65536 / 32768 = 1 := by omega
      simp [hc, c, lowv]
    · have hc : ¬ v % 65536 / 32768 = 1 := by omega
      simp [hc, c, lowv]
theorem ext4 (k : Nat) (v : Int) (s : Bool) : mortiseref01_extended.f (k + 1) v 4 s = some (lowv v 4 s) := by
  simp [mortiseref01_extended.f, mortiseref01_extended.j0, lowv]
/-! Values. -/
def val1 (x : Int) : Int := bits .or .u32 0 (shl .u32 (x % 4294967296) 0)
def val2 (x y : Int) : Int := bits .or .u32 (val1 x) (shl .u32 (y % 4294967296) 8)
def val4 (x y z u : Int) : Int := bits .or .u32 (bits .or .u32 (val2 x y) (shl .u32 (z % 4294967296) 16)) (shl .u32 (u % 4294967296) 24)
theorem w8 : IntKind.u64.wrap (wrap64 (8 * 1)) = 8 := by decide +kernel
theorem rvalue1 (x : Int) (s : Bool) : mortiseref01_Value.f 20 [x] s = some (lowv (val1 x) 1 s, 0) := by
  have h := fun k => ext1 k (val1 x) s (or_range _ _).1 (or_range _ _).2
  unfold val1 at h
  simp [mortiseref01_Value.f, mortiseref01_Value.j0, mortiseref01_Value.l0, rd, wrap64, wrap_u64, h, val1]
theorem rvalue2 (x y : Int) (s : Bool) : mortiseref01_Value.f 20 [x, y] s = some (lowv (val2 x y) 2 s, 0) := by
  have h := fun k => ext2 k (val2 x y) s (or_range _ _).1 (or_range _ _).2
  unfold val2 val1 at h
  simp [mortiseref01_Value.f, mortiseref01_Value.j0, mortiseref01_Value.l0, rd, wrap64, wrap_u64, h, val1, val2]
theorem rvalue4 (x y z u : Int) (s : Bool) : mortiseref01_Value.f 20 [x, y, z, u] s = some (lowv (val4 x y z u) 4 s, 0) := by
  have h := fun k => ext4 k (val4 x y z u) s
  unfold val4 val2 val1 at h
  simp [mortiseref01_Value.f, mortiseref01_Value.j0, mortiseref01_Value.l0, rd, wrap64, wrap_u64, h, val1, val2, val4]
end Go.Proofs.Ytejhnlljddjicaa.La
namespace Go.Proofs.Ytejhnlljddjicaa.La
open Go.RowKit Go.Proofs.Ytejhnlljddjicaa.PLk Go.Proofs.YtejhnlljddjicaaW.PrintWords Go.Proofs.YtejhnlljddjicaaW.PrintLast Go.Proofs.YtejhnlljddjicaaW.PrintMore
theorem refInt (a : Int) (h0 : 0 ≤ a) (h1 : a < 4294967296) : mortiseref01_Int.f a = some (wrap32 a) := by
  unfold mortiseref01_Int.f
  by_cases h : a ≥ 2147483648
  · rw [if_pos h]; congr 1; unfold wrap64 wrap32; omega
  · rw [if_neg h]; congr 1; unfold wrap64 wrap32; omega
theorem refOf (n : Int) : mortiseref01_Of.f n = some (n % 4294967296) := by
  unfold mortiseref01_Of.f
  have h := bits_mask .u64 64 (by decide) (fun n h0 h1 => by rw [wrap_u64]; omega) 32 (by decide) (n % 18446744073709551616) (by omega) (by omega)
  have e : ((2 : Int) ^ 32 - 1) = 4294967295 := by decide
  rw [e] at h
  rw [wrap_u64, h]
  congr 1
  omega
theorem refFlag (b : Bool) : mortiseref01_flag.f b = some (bif b then 1 else 0) := by cases b <;> rfl
theorem flagv (b : Bool) : word_flag.f b = some (bif b then 1 else 0) := by cases b <;> rfl
theorem u64m (b : Int) (h0 : 0 ≤ b) : IntKind.u64.wrap (Int.tmod b 32) = b % 32 := by rw [wrap_u64, tmod32 b h0]; omega
theorem shri64 (a m : Int) (h0 : 0 ≤ m) (hm : m < 32) : shr .i64 a m = a / 2 ^ m.toNat := by
  unfold shr; rw [Nat.min_eq_left (by simp [IntKind.bits]; omega)]

theorem bin_eq (op a b : Int) (ha0 : 0 ≤ a) (ha1 : a < 4294967296) (hb0 : 0 ≤ b) (hb1 : b < 4294967296) :
    mortiseref01_Bin.f 30 op a b = word_Bin.f 30 op a b ∧ ∃ r, word_Bin.f 30 op a b = some r := by
  have hm0 : 0 ≤ b % 32 := by omega
  have hm1 : b % 32 < 32 := by omega
  by_cases e : op = 1 ∨ op = 2 ∨ op = 3 ∨ op = 4 ∨ op = 5 ∨ op = 6 ∨ op = 7 ∨ op = 8 ∨ op = 9 ∨ op = 10 ∨ op = 11 ∨ op = 12 ∨ op = 13 ∨ op = 14 ∨ op = 15 ∨ op = 16 ∨ op = 17 ∨ op = 18 ∨ op = 19
  · rcases e with rfl | rfl | rfl | rfl | rfl | rfl | rfl | rfl | rfl | rfl | rfl | rfl | rfl | rfl | rfl | rfl | rfl | rfl | rfl
    all_goals first
      | (simp [mortiseref01_Bin.f, mortiseref01_Bin.j0, word_Bin.f, word_Bin.j0, refFlag, flagv]; done)
      | (simp [mortiseref01_Bin.f, mortiseref01_Bin.j0, word_Bin.f, word_Bin.j0, refFlag, flagv, refInt a ha0 ha1, refInt b hb0 hb1, apply_ite]; done)
      | (rw [mortiseref01_Bin.f]; simp only [u64m b hb0]; simp [mortiseref01_Bin.j0, word_Bin.f, word_Bin.j0, and31 b hb0 hb1, refInt a ha0 ha1, refOf, shri64 _ _ hm0 hm1, shri32 _ _ hm1, hm0]; done)
      | (by_cases hb : b = 0
         · subst hb; simp [mortiseref01_Bin.f, mortiseref01_Bin.j0, word_Bin.f, word_Bin.j0]
         · have hw : wrap32 b ≠ 0 := by unfold wrap32; omega
           have hwb : wrap64 b = b := by unfold wrap64; omega
           have hwa : wrap64 a = a := by unfold wrap64; omega
           have ht : 0 ≤ Int.tdiv a b ∧ Int.tdiv a b < 4294967296 := by
             rw [Int.tdiv_eq_ediv_of_nonneg ha0]
             exact ⟨Int.ediv_nonneg ha0 hb0, Int.lt_of_le_of_lt (Int.ediv_le_self _ ha0) ha1⟩
           have hu : 0 ≤ Int.tmod a b ∧ Int.tmod a b < 4294967296 := by
             rw [Int.tmod_eq_emod_of_nonneg ha0]
             have := Int.emod_nonneg a hb
             have := Int.emod_lt_of_pos a (show 0 < b by omega)
             omega
           have hwt : wrap64 (Int.tdiv a b) = Int.tdiv a b := by unfold wrap64; omega
           have hum : Int.tmod a b % 4294967296 = Int.tmod a b := by omega
           simp [mortiseref01_Bin.f, mortiseref01_Bin.j0, mortiseref01_Bin.j1, mortiseref01_Bin.j2, mortiseref01_Bin.j3, mortiseref01_quotient.f, word_Bin.f, word_Bin.j0, word_divided.f, hb, refInt a ha0 ha1, refInt b hb0 hb1, refOf, wrap3264, hw, hwa, hwb, hwt, hum])
  · have n1 : op ≠ 1 := by omega
    have n2 : op ≠ 2 := by omega
    have n3 : op ≠ 3 := by omega
    have n4 : op ≠ 4 := by omega
    have n5 : op ≠ 5 := by omega
    have n6 : op ≠ 6 := by omega
    have n7 : op ≠ 7 := by omega
    have n8 : op ≠ 8 := by omega
    have n9 : op ≠ 9 := by omega
    have n10 : op ≠ 10 := by omega
    have n11 : op ≠ 11 := by omega
    have n12 : op ≠ 12 := by omega
    have n13 : op ≠ 13 := by omega
    have n14 : op ≠ 14 := by omega
    have n15 : op ≠ 15 := by omega
    have n16 : op ≠ 16 := by omega
    have n17 : op ≠ 17 := by omega
    have n18 : op ≠ 18 := by omega
    have n19 : op ≠ 19 := by omega
    have f7 : (op == 7) = false := by simpa using n7
    simp [mortiseref01_Bin.f, mortiseref01_Bin.j0, word_Bin.f, word_Bin.j0, n1, n2, n3, n4, n5, n6, n7, n8, n9, n10, n11, n12, n13, n14, n15, n16, n17, n18, n19]

end Go.Proofs.Ytejhnlljddjicaa.La
namespace Go.Proofs.Ytejhnlljddjicaa.Ma
open Go.RowKit Go.Proofs.Ytejhnlljddjicaa.PLk Go.Proofs.YtejhnlljddjicaaW.PrintWords Go.Proofs.YtejhnlljddjicaaW.PrintLast Go.Proofs.YtejhnlljddjicaaW.PrintMore Go.Proofs.Ytejhnlljddjicaa.La
set_option linter.unusedVariables false
set_option linter.unusedSimpArgs false
variable {w w' : World} {c pg : Nat} {ps ps' : Pages} {S S' : Cpu} {inp out inp' out' : List Int}
/-- n bytes of the memory. -/
def memL (ps : Pages) (a : Nat) (n : Nat) : List Int := (List.range n).map fun i => byteAt ps (a + i)
/-- A number of n bytes. -/
def wordF (ps : Pages) (a : Nat) (n : Int) (sg : Bool) : Int :=
  if n = 1 then lowv (val1 (byteAt ps a)) 1 sg else if n = 2 then lowv (val2 (byteAt ps a) (byteAt ps (a + 1))) 2 sg
  else lowv (val4 (byteAt ps a) (byteAt ps (a + 1)) (byteAt ps (a + 2)) (byteAt ps (a + 3))) 4 sg
theorem byte_in {g : Nat} {bs : List Int} {a : Nat} (hk : ps[a / 4096]? = some (some (g, bs))) : byteAt ps a = (bs[a % 4096]?).getD 0 := by unfold byteAt; rw [hk]
theorem byte_out {a : Nat} (hk : ps[a / 4096]? = some none) : byteAt ps a = 0 := by unfold byteAt; rw [hk]
end Go.Proofs.Ytejhnlljddjicaa.Ma
namespace Go.Proofs.Ytejhnlljddjicaa.Ma
open Go.RowKit Go.Proofs.Ytejhnlljddjicaa.PLk Go.Proofs.YtejhnlljddjicaaW.PrintWords Go.Proofs.YtejhnlljddjicaaW.PrintLast Go.Proofs.YtejhnlljddjicaaW.PrintMore
set_option linter.unusedVariables false
set_option linter.unusedSimpArgs false
variable {w w' : World} {c pg : Nat} {ps ps' : Pages} {S S' : Cpu} {inp out inp' out' : List Int}
theorem map_same {α β : Type} (f : α → β) (l : List α) (k : Nat) (x y : α) (hk : l[k]? = some x) (e : f y = f x) : (l.set k y).map f = l.map f := by
  rw [List.map_set]
  apply List.ext_getElem?
  intro i
  by_cases h : k = i
  · subst h
    have := (List.getElem?_eq_some_iff.1 hk).1
    rw [List.getElem?_set_self (by simpa using this), List.getElem?_map, hk, e]; rfl
  · rw [List.getElem?_set_ne h]
theorem blocks_same {k g : Nat} {bs bs' : List Int} (hk : ps[k]? = some (some (g, bs))) : blocks (ps.set k (some (g, bs'))) = blocks ps := by
  have h1 : ∀ l : Pages, blocks l = (l.map fun p => p.map (·.1)).filterMap id := by intro l; unfold blocks; rw [List.filterMap_map]; rfl
  rw [h1, h1, map_same _ _ _ _ _ hk]
  rfl
theorem blocks_inj : ∀ (ps : Pages), (blocks ps).Nodup → ∀ (i k g : Nat) (a b : List Int), ps[i]? = some (some (g, a)) → ps[k]? = some (some (g, b)) → i = k
  | [], _, i, k, g, a, b, h, _ => by simp at h
  | none :: ps, hn, 0, k, g, a, b, h, _ => by simp at h
  | none :: ps, hn, i + 1, 0, g, a, b, _, h => by simp at h
  | none :: ps, hn, i + 1, k + 1, g, a, b, h1, h2 => by
    have := blocks_inj ps (by simpa [blocks] using hn) i k g a b (by simpa using h1) (by simpa using h2)
    omega
  | some q :: ps, hn, i, k, g, a, b, h1, h2 => by
    have hn2 : (q.1 :: blocks ps).Nodup := by simpa [blocks] using hn
    obtain ⟨hq, hn3⟩ := List.nodup_cons.1 hn2
    have hm : ∀ (j : Nat) (x : List Int), ps[j]? = some (some (g, x)) → g ∈ blocks ps := fun j x hx => by
      unfold blocks; rw [List.mem_filterMap]; exact ⟨_, List.mem_of_getElem? hx, rfl⟩
    cases i with
    | zero =>
      cases k with
      | zero => rfl
      | succ k =>
        simp only [List.getElem?_cons_zero, Option.some.injEq] at h1
        subst h1
        exact absurd (hm k b (by simpa using h2)) hq
    | succ i =>
      cases k with
      | zero =>
        simp only [List.getElem?_cons_zero, Option.some.injEq] at h2
        subst h2
        exact absurd (hm i a (by simpa using h1)) hq
      | succ k =>
        have := blocks_inj ps hn3 i k g a b (by simpa using h1) (by simpa using h2)
        omega
/-- The memory with a byte put into it. -/
theorem byte_set {k g : Nat} {bs : List Int} (hk : ps[k]? = some (some (g, bs))) (hl : bs.length = 4096) (o : Nat) (ho : o < 4096) (b : Int) (a : Nat) :
    byteAt (ps.set k (some (g, bs.set o b))) a = if a = k * 4096 + o then b else byteAt ps a := by
  unfold byteAt
  by_cases e : k = a / 4096
  · subst e
    rw [List.getElem?_set_self (List.getElem?_eq_some_iff.1 hk).1, hk]
    simp only
    by_cases e2 : a % 4096 = o
    · rw [if_pos (by omega), e2, List.getElem?_set_self (by omega)]; rfl
    · rw [if_neg (by omega), List.getElem?_set_ne (by omega)]
  · rw [List.getElem?_set_ne e, if_neg (by omega)]
end Go.Proofs.Ytejhnlljddjicaa.Ma
namespace Go.Proofs.Ytejhnlljddjicaa.Ma
open Go.RowKit Go.Proofs.Ytejhnlljddjicaa.PLk Go.Proofs.YtejhnlljddjicaaW.PrintWords Go.Proofs.YtejhnlljddjicaaW.PrintLast Go.Proofs.YtejhnlljddjicaaW.PrintMore Go.Proofs.Ytejhnlljddjicaa.La
set_option linter.unusedVariables false
set_option linter.unusedSimpArgs false
variable {w w' : World} {c pg : Nat} {ps ps' : Pages} {S S' : Cpu} {inp out inp' out' : List Int}
/-- What an operation makes of two numbers; false: a division by nought. -/
def binP (op a b : Int) : Int × Bool := (word_Bin.f 30 op a b).getD (0, false)
def reckF (S : Cpu) (op : Int) (a : Nat) (x y : Int) : Cpu := if (binP op x y).2 then { S with regs := S.regs.set a (binP op x y).1 } else S
end Go.Proofs.Ytejhnlljddjicaa.Ma
namespace Go.Proofs.Ytejhnlljddjicaa.Ma
open Go.RowKit Go.Proofs.Ytejhnlljddjicaa.PLk Go.Proofs.YtejhnlljddjicaaW.PrintWords Go.Proofs.YtejhnlljddjicaaW.PrintLast Go.Proofs.YtejhnlljddjicaaW.PrintMore Go.Proofs.Ytejhnlljddjicaa.La
set_option linter.unusedVariables false
set_option linter.unusedSimpArgs false
variable {w w' : World} {c pg : Nat} {ps ps' : Pages} {S S' : Cpu} {inp out inp' out' : List Int}
theorem far_cell {W W1 : World} {g i k j : Nat} {v u : Value} (hk : W1.cell? ⟨g, i, none⟩ = some v) (hb : Below W1.heap.size W1 W) (hne : ¬ k = g) : (W.setCell ⟨k, j, none⟩ u).cell? ⟨g, i, none⟩ = some v := by
  rw [World.cell?_setCell_far _ _ _ _ (show (⟨k, j, none⟩ : Addr).block ≠ (⟨g, i, none⟩ : Addr).block from hne)]
  exact pw_cell_below hb hk
/-- An instruction. -/
structure I5 where
  op : Int
  a : Nat
  b : Nat
  c : Nat
  imm : Int
def I5.enc (x : I5) : Value := .agg #[.int .i64 x.op, .int .i64 x.a, .int .i64 x.b, .int .i64 x.c, .int .i64 x.imm]
theorem lowv_range (v : Int) (n : Nat) (s : Bool) (h0 : 0 ≤ v) (h1 : v < 4294967296) : 0 ≤ lowv v n s ∧ lowv v n s < 4294967296 := by
  unfold lowv; repeat' split <;> omega
theorem wordF_range (ps : Pages) (a : Nat) (n : Int) (sg : Bool) : 0 ≤ wordF ps a n sg ∧ wordF ps a n sg < 4294967296 := by
  unfold wordF
  split
  · exact lowv_range _ _ _ (or_range _ _).1 (or_range _ _).2
  · split
    · exact lowv_range _ _ _ (or_range _ _).1 (or_range _ _).2
    · exact lowv_range _ _ _ (or_range _ _).1 (or_range _ _).2
/-- The address of an access. -/
def addrF (S : Cpu) (x : I5) : Int := ((S.regs[x.b]?).getD 0 + x.imm % 4294967296) % 4294967296
end Go.Proofs.Ytejhnlljddjicaa.Ma
namespace Go.Proofs.Ytejhnlljddjicaa.Ma
open Go.RowKit Go.Proofs.Ytejhnlljddjicaa.PLk Go.Proofs.YtejhnlljddjicaaW.PrintWords Go.Proofs.Ytejhnlljddjicaa.La
set_option linter.unusedVariables false
theorem back_range (A : BitVec 32) : 0 ≤ back A ∧ back A < 4294967296 := by
  unfold back
  have := A.isLt
  omega
theorem bits_range (op : BinOp) (a b : Int) (h : op = .and ∨ op = .or ∨ op = .xor) : 0 ≤ bits op .u32 a b ∧ bits op .u32 a b < 4294967296 := by
  rcases h with rfl | rfl | rfl
  · rw [and_bv]; exact back_range _
  · rw [or_bv]; exact back_range _
  · rw [xor_bv]; exact back_range _
theorem flag_range (c : Bool) : (0 : Int) ≤ (bif c then 1 else 0) ∧ (bif c then 1 else 0 : Int) < 4294967296 := by cases c <;> decide
theorem bin_in (op a b : Int) (ha0 : 0 ≤ a) (ha1 : a < 4294967296) (hb0 : 0 ≤ b) (hb1 : b < 4294967296) : 0 ≤ (binP op a b).1 ∧ (binP op a b).1 < 4294967296 := by
  have hm1 : b % 32 < 32 := by omega
  have hand := bits_range .and a b (.inl rfl)
  have hor := bits_range .or a b (.inr (.inl rfl))
  have hxor := bits_range .xor a b (.inr (.inr rfl))
  unfold binP
  by_cases e : op = 1 ∨ op = 2 ∨ op = 3 ∨ op = 4 ∨ op = 5 ∨ op = 6 ∨ op = 7 ∨ op = 8 ∨ op = 9 ∨ op = 10 ∨ op = 11 ∨ op = 12 ∨ op = 13 ∨ op = 14 ∨ op = 15 ∨ op = 16 ∨ op = 17 ∨ op = 18 ∨ op = 19
  · rcases e with rfl | rfl | rfl | rfl | rfl | rfl | rfl | rfl | rfl | rfl | rfl | rfl | rfl | rfl | rfl | rfl | rfl | rfl | rfl
    · rw [bin_add 29]; simp only [Option.getD_some]; omega
    · rw [bin_sub 29]; simp only [Option.getD_some]; omega
    · rw [bin_mul 29]; simp only [Option.getD_some]; omega
    · by_cases hb : b = 0
      · subst hb; simp [word_Bin.f, word_Bin.j0]
      · simp [word_Bin.f, word_Bin.j0, word_divided.f, hb]
        split
        · simp
        · simp only [Option.bind_some, Option.getD_some]; omega
    · by_cases hb : b = 0
      · subst hb; simp [word_Bin.f, word_Bin.j0]
      · rw [bin_divu 29 a b hb]; simp only [Option.getD_some]; omega
    · by_cases hb : b = 0
      · subst hb; simp [word_Bin.f, word_Bin.j0]
      · simp [word_Bin.f, word_Bin.j0, word_divided.f, hb]
        split
        · simp
        · simp only [Option.bind_some, Option.getD_some]; omega
    · by_cases hb : b = 0
      · subst hb; simp [word_Bin.f, word_Bin.j0]
      · simp [word_Bin.f, word_Bin.j0, word_divided.f, hb]
        rw [Int.tmod_eq_emod_of_nonneg ha0]
        have h1 := Int.emod_nonneg a hb
        have h2 := Int.emod_lt_of_pos a (show 0 < b by omega)
        omega
    · rw [bin_and 29]; simp only [Option.getD_some]; exact hand
    · rw [bin_or 29]; simp only [Option.getD_some]; exact hor
    · rw [bin_xor 29]; simp only [Option.getD_some]; exact hxor
    · rw [bin_shl 29 a b hb0 hb1]; simp only [Option.getD_some]; omega
    · rw [bin_shrs 29 a b hb0 hb1]; simp only [Option.getD_some]; omega
    · rw [bin_shru 29 a b hb0 hb1]; simp only [Option.getD_some]
      have hp : (0 : Int) < 2 ^ (b % 32).toNat := Int.pow_pos (by decide)
      exact ⟨Int.ediv_nonneg ha0 (by omega), Int.lt_of_le_of_lt (Int.ediv_le_self _ ha0) ha1⟩
    all_goals (simp [word_Bin.f, word_Bin.j0, flagv])
    all_goals (first | exact flag_range _ | omega | ((repeat' split) <;> omega) | trace_state)
  · obtain ⟨_, ⟨r, ok⟩, hf⟩ := bin_eq op a b ha0 ha1 hb0 hb1
    have n : op ≠ 1 ∧ op ≠ 2 ∧ op ≠ 3 ∧ op ≠ 4 ∧ op ≠ 5 ∧ op ≠ 6 ∧ op ≠ 7 ∧ op ≠ 8 ∧ op ≠ 9 ∧ op ≠ 10 ∧ op ≠ 11 ∧ op ≠ 12 ∧ op ≠ 13 ∧ op ≠ 14 ∧ op ≠ 15 ∧ op ≠ 16 ∧ op ≠ 17 ∧ op ≠ 18 ∧ op ≠ 19 := by omega
    obtain ⟨n1, n2, n3, n4, n5, n6, n7, n8, n9, n10, n11, n12, n13, n14, n15, n16, n17, n18, n19⟩ := n
    simp [word_Bin.f, word_Bin.j0, n1, n2, n3, n4, n5, n6, n7, n8, n9, n10, n11, n12, n13, n14, n15, n16, n17, n18, n19]
end Go.Proofs.Ytejhnlljddjicaa.Ma
namespace Go.Proofs.Ytejhnlljddjicaa.Ma
open Go.RowKit Go.Proofs.Ytejhnlljddjicaa.PLk Go.Proofs.YtejhnlljddjicaaW.PrintWords Go.Proofs.YtejhnlljddjicaaW.PrintLast Go.Proofs.YtejhnlljddjicaaW.PrintMore Go.Proofs.Ytejhnlljddjicaa.La
set_option linter.unusedVariables false
set_option linter.unusedSimpArgs false
variable {w w' : World} {c pg : Nat} {ps ps' : Pages} {S S' : Cpu} {inp out inp' out' : List Int}
/-- The memory with n bytes of a number put into it. -/
def putF (f : Nat → Int) (p n : Nat) (v : Int) (a : Nat) : Int := if p ≤ a ∧ a < p + n then v / 2 ^ (8 * (a - p)) % 256 else f a
theorem putF_next (f : Nat → Int) (p n : Nat) (v : Int) (a : Nat) : putF f p (n + 1) v a = if a = p + n then v / 2 ^ (8 * n) % 256 else putF f p n v a := by
  unfold putF
  by_cases h : a = p + n
  · subst h; rw [if_pos rfl, if_pos (by omega), show p + n - p = n by omega]
  · rw [if_neg h]
    by_cases h2 : p ≤ a ∧ a < p + n
    · rw [if_pos h2, if_pos (by omega)]
    · rw [if_neg h2, if_neg (by omega)]
end Go.Proofs.Ytejhnlljddjicaa.Ma
namespace Go.Proofs.Ytejhnlljddjicaa.Ma
open Go.RowKit Go.Proofs.Ytejhnlljddjicaa.PLk Go.Proofs.YtejhnlljddjicaaW.PrintWords Go.Proofs.YtejhnlljddjicaaW.PrintLast Go.Proofs.YtejhnlljddjicaaW.PrintMore Go.Proofs.Ytejhnlljddjicaa.La
set_option linter.unusedVariables false
set_option linter.unusedSimpArgs false
variable {w w' : World} {c pg : Nat} {ps ps' : Pages} {S S' : Cpu} {inp out inp' out' : List Int}
/-- How many bytes an operation moves; whether it loads; whether it keeps the sign. -/
def accN (op : Int) : Int := if op = 80 ∨ op = 81 ∨ op = 88 then 1 else if op = 82 ∨ op = 83 ∨ op = 89 then 2 else 4
def accL (op : Int) : Bool := decide (op = 80 ∨ op = 81 ∨ op = 82 ∨ op = 83 ∨ op = 84)
def accS (op : Int) : Bool := decide (op = 80 ∨ op = 82)
/-- What access answers, and what it makes of the machine and of the memory. -/
def accE (S : Cpu) (x : I5) : Int := mayF S.code (addrF S x) (accN x.op) (!accL x.op)
end Go.Proofs.Ytejhnlljddjicaa.Ma
namespace Go.Proofs.Ytejhnlljddjicaa.Ma
open Go.RowKit Go.Proofs.Ytejhnlljddjicaa.PLk Go.Proofs.YtejhnlljddjicaaW.PrintWords Go.Proofs.YtejhnlljddjicaaW.PrintLast Go.Proofs.YtejhnlljddjicaaW.PrintMore Go.Proofs.Ytejhnlljddjicaa.La
set_option linter.unusedVariables false
set_option linter.unusedSimpArgs false
variable {w w' : World} {c pg : Nat} {ps ps' : Pages} {S S' : Cpu} {inp out inp' out' : List Int}
/-- What an instruction answers, and what it makes of the machine, the memory, the input, the output. -/
structure Ran where
  err : Value
  S : Cpu
  m : Nat → Int
  inp : List Int
  out : List Int
def regV (S : Cpu) (k : Nat) : Int := (S.regs[k]?).getD 0
def setR (S : Cpu) (k : Nat) (v : Int) : Cpu := { S with regs := S.regs.set k v }
def stopV (a b : Int) : Value := .iface 79 (.agg #[.int .i64 a, .int .i64 b])
theorem form1 (op : Int) (h : 1 ≤ op ∧ op ≤ 19) : enc_Form.f 20 op = some 1 := by
  unfold enc_Form.f; rw [if_pos (by omega), show decide (op ≤ 19) = true by simp; omega]; simp [enc_Form.j0]
theorem form2 (op : Int) (h : (33 ≤ op ∧ op ≤ 51) ∨ (80 ≤ op ∧ op ≤ 84) ∨ (88 ≤ op ∧ op ≤ 90)) : enc_Form.f 20 op = some 2 := by
  unfold enc_Form.f
  rw [if_pos (by omega), show decide (op ≤ 19) = false by simp; omega]
  simp only [enc_Form.j0, enc_Form.j1, enc_Form.j2, enc_Form.j3]
  rw [if_neg (by decide), if_pos (by omega)]
  by_cases h1 : op ≤ 51
  · rw [if_pos (by simp; omega)]
  · rw [if_neg (by simp; omega), if_pos (by omega)]
    by_cases h2 : op ≤ 84
    · rw [if_pos (by simp; omega)]
    · rw [if_neg (by simp; omega), if_pos (by omega), if_pos (by omega)]
end Go.Proofs.Ytejhnlljddjicaa.Ma
namespace Go.Proofs.Ytejhnlljddjicaa.Ma
open Go.RowKit Go.Proofs.Ytejhnlljddjicaa.PLk Go.Proofs.YtejhnlljddjicaaW.PrintWords Go.Proofs.YtejhnlljddjicaaW.PrintLast Go.Proofs.YtejhnlljddjicaaW.PrintMore Go.Proofs.Ytejhnlljddjicaa.La
set_option linter.unusedVariables false
set_option linter.unusedSimpArgs false
variable {w w' : World} {c pg : Nat} {ps ps' : Pages} {S S' : Cpu} {inp out inp' out' : List Int}
theorem idx16 {a : Nat} (h : a < 16) : (a : Int) < 16 := by omega
theorem below_dN (W : World) (n : Nat) : Below W.heap.size W (W.drewN n) := ⟨rfl, rfl, rfl, Nat.le_refl _, fun _ _ => rfl⟩
end Go.Proofs.Ytejhnlljddjicaa.Ma
