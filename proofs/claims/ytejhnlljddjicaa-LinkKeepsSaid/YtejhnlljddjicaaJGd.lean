/- Step: the error's type read, the fetch joined. No condition beyond those each theorem names. And more of the kind: 9 texts in one. -/
import Derived.Test.YtejhnlljddjicaaJGc
import Derived.Deep.RegionLaw
namespace Go.Proofs.Ytejhnlljddjicaa.Ma
open Go.RowKit Go.Proofs.Ytejhnlljddjicaa.PLk Go.Proofs.YtejhnlljddjicaaW.PrintWords Go.Proofs.YtejhnlljddjicaaW.PrintLast Go.Proofs.YtejhnlljddjicaaW.PrintMore Go.Proofs.Ytejhnlljddjicaa.La
set_option linter.unusedVariables false
set_option linter.unusedSimpArgs false
variable {w w' : World} {c pg : Nat} {ps ps' : Pages} {S S' : Cpu} {inp out inp' out' : List Int}
/-- What a run's end an error means: the stop and its number. -/
def endOf (v : Value) : Option (Int × Int) := match v with
 | .iface 77 (.agg cs) => (match cs.toList with
  | [.int .i64 n] => some (6, n)
  | _ => none)
 | .iface 79 (.agg cs) => (match cs.toList with
  | [.int .i64 a, .int .i64 b] => some (a, b)
  | _ => none)
 | _ => none
end Go.Proofs.Ytejhnlljddjicaa.Ma
namespace Go.Proofs.Ytejhnlljddjicaa.Ma
open Go.RowKit Go.Proofs.Ytejhnlljddjicaa.PLk Go.Proofs.YtejhnlljddjicaaW.PrintWords Go.Proofs.YtejhnlljddjicaaW.PrintLast Go.Proofs.YtejhnlljddjicaaW.PrintMore Go.Proofs.Ytejhnlljddjicaa.La
set_option linter.unusedVariables false
set_option linter.unusedSimpArgs false
variable {w w' : World} {c pg : Nat} {ps ps' : Pages} {S S' : Cpu} {inp out inp' out' : List Int}
theorem C_src {A : Option Addr} {n m : Nat} {xs : List Int} (h : Kd.C (Kd.int .u8) w A n xs) (hm : m ≤ n) (h0 : 0 < n) : ∃ ad, A = some ad ∧ ∀ j v, ((xs.take m).map (Value.int .u8 ·))[j]? = some v → w.cell? (ad.add j) = some v := by
 have hR : ReadsInt w .u8 A n xs := Kd.reads_of_C (enc := Value.int .u8) (d := (0 : Int)) (h1 := fun _ => rfl) h
 obtain ⟨ad, e, hx⟩ := hR.2.2 h0
 refine ⟨ad, e, fun j v hj => ?_⟩
 simp only [List.getElem?_map, Option.map_eq_some_iff] at hj
 obtain ⟨b, hb, rfl⟩ := hj
 have hjm : j < m ∧ xs[j]? = some b := by
  rw [List.getElem?_take] at hb
  split at hb
  ·next h => exact ⟨h, hb⟩
  ·cases hb
 have hjn : j < n := by omega
 have := hx j hjn
 rw [show xs.getD j 0 = b by simp [hjm.2]] at this
 exact this
end Go.Proofs.Ytejhnlljddjicaa.Ma
namespace Go.Proofs.Ytejhnlljddjicaa.Ma
open Go.RowKit Go.Proofs.Ytejhnlljddjicaa.PLk Go.Proofs.YtejhnlljddjicaaW.PrintWords Go.Proofs.YtejhnlljddjicaaW.PrintLast Go.Proofs.YtejhnlljddjicaaW.PrintMore Go.Proofs.Ytejhnlljddjicaa.La
set_option linter.unusedVariables false
set_option linter.unusedSimpArgs false
variable {w w' : World} {c pg : Nat} {ps ps' : Pages} {S S' : Cpu} {inp out inp' out' : List Int}
theorem info22 : ∃ i, Try.prog.info? 23 = some i ∧ i.zero = some (.slice none 0 0) ∧ i.size = 1 ∧ i.bytes ≤ 24 := by
 have h : (Try.prog.info? 23).map (fun i => (i.zero, i.size, decide (i.bytes ≤ 24))) = some (some (.slice none 0 0), 1, true) := by kernel_rfl
 cases hi : Try.prog.info? 23 with
 | none => rw [hi] at h; cases h
 | some i =>
  rw [hi] at h
  simp only [Option.map_some, Option.some.injEq, Prod.mk.injEq, decide_eq_true_eq] at h
  exact ⟨i, rfl, h⟩
def noPages : Pages := List.replicate 2048 none
theorem made_pagesN (n : Nat) : madeCells #[.slice none 0 0] (n * 1) = (((List.replicate n none : Pages)).map pgVal).toArray := by
 apply Array.ext
 ·simp [madeCells]
 ·intro i h1 h2
  simp [madeCells, Nat.mod_one, pgVal]
theorem made_pages : madeCells #[.slice none 0 0] (2048 * 1) = (noPages.map pgVal).toArray := made_pagesN 2048
theorem run_make53 (W : World) : (Instr.makeSlice 93 (.int .i64 2048) (.int .i64 2048)).run Try.prog W = .ok (.slice (some ⟨W.heap.size, 0, none⟩) 2048 2048) (W.alloc (.cells (noPages.map pgVal).toArray 23)) := by
 obtain ⟨i, hi, hz, hs, hb⟩ := info22
 rw [run_make W 93 23 i _ Try.underlying93 hi hz .i64 .i64 2048 2048 (by omega) (by omega) (by omega) (by omega), hs]
 rw [show (Value.slice none 0 0).cells = #[.slice none 0 0] from rfl]
 rw [show (2048 : Int).toNat = 2048 from rfl, made_pages]
/-- A machine at the beginning, before the image is put in. -/
def cpu0 (code : Int) (v : Value) : Cpu := ⟨code, 0, List.replicate 16 0, 0, v, .slice none 0 0, 0, 0⟩
theorem byte_no (i : Nat) : byteAt noPages i = 0 := by
 unfold byteAt noPages
 rw [List.getElem?_replicate]
 split <;> simp_all
theorem blocks_none (n : Nat) : blocks (List.replicate n none) = [] := by
 unfold blocks; rw [List.filterMap_eq_nil_iff]; intro x hx; rw [List.eq_of_mem_replicate hx]; rfl
/-- An image that may be run. -/
def okImg (n : Nat) (code entry : Int) : Prop := 4 ≤ code ∧ code % 4 = 0 ∧ code ≤ n ∧ n ≤ 1048576 ∧ entry % 4 = 0 ∧ 4096 ≤ entry ∧ entry ≤ 4096 + code - 4
theorem tmod4 (a : Int) : Int.tmod a 4 = 0 ↔ a % 4 = 0 := by
 rw [← Int.dvd_iff_tmod_eq_zero, ← Int.dvd_iff_emod_eq_zero]
end Go.Proofs.Ytejhnlljddjicaa.Ma
namespace Go.Proofs.Ytejhnlljddjicaa.Ma
open Go.RowKit Go.Proofs.Ytejhnlljddjicaa.PLk Go.Proofs.YtejhnlljddjicaaW.PrintWords Go.Proofs.YtejhnlljddjicaaW.PrintLast Go.Proofs.YtejhnlljddjicaaW.PrintMore Go.Proofs.Ytejhnlljddjicaa.La
set_option linter.unusedVariables false
set_option linter.unusedSimpArgs false
variable {w w' : World} {c pg : Nat} {ps ps' : Pages} {S S' : Cpu} {inp out inp' out' : List Int}
theorem C_lt {W : World} {A : Option Addr} {n : Nat} {xs : List Int} (h : Kd.C (Kd.int .u8) W A n xs) (hn : 0 < n) {ad : Addr} (ha : A = some ad) : ad.block < W.heap.size := by
 obtain ⟨ad', e, hs⟩ := C_src h (Nat.le_refl n) hn
 rw [ha] at e
 injection e with e
 subst e
 have hl := h.1
 have := hs 0 (.int .u8 (xs[0]'(by omega))) (by simp [List.getElem?_take, hn])
 have := cell_lt this
 rwa [show (ad.add 0) = ad by simp [Addr.add]] at this
end Go.Proofs.Ytejhnlljddjicaa.Ma
namespace Go.Proofs.Ytejhnlljddjicaa.Ma
open Go.RowKit Go.Proofs.Ytejhnlljddjicaa.PLk Go.Proofs.YtejhnlljddjicaaW.PrintWords Go.Proofs.YtejhnlljddjicaaW.PrintLast Go.Proofs.YtejhnlljddjicaaW.PrintMore Go.Proofs.Ytejhnlljddjicaa.La
set_option linter.unusedVariables false
set_option linter.unusedSimpArgs false
variable {w w' : World} {c pg : Nat} {ps ps' : Pages} {S S' : Cpu} {inp out inp' out' : List Int}
def wordM (m : Nat → Int) (a : Nat) (n : Int) (sg : Bool) : Int :=
 if n = 1 then lowv (val1 (m a)) 1 sg else if n = 2 then lowv (val2 (m a) (m (a + 1))) 2 sg
 else lowv (val4 (m a) (m (a + 1)) (m (a + 2)) (m (a + 3))) 4 sg
def loadM (m : Nat → Int) (S : Cpu) (x : I5) (n : Int) (sg : Bool) : Cpu := if mayF S.code (addrF S x) n false = 0 then { S with regs := S.regs.set x.a (wordM m (addrF S x).toNat n sg) } else S
def accCM (m : Nat → Int) (S : Cpu) (x : I5) : Cpu := if accL x.op then loadM m S x (accN x.op) (accS x.op) else S
def accMM (m : Nat → Int) (S : Cpu) (x : I5) (i : Nat) : Int := if accL x.op then m i else if accE S x = 0 then putF m (addrF S x).toNat (accN x.op).toNat ((S.regs[x.a]?).getD 0) i else m i
def doM (m : Nat → Int) (S : Cpu) (x : I5) (inp out : List Int) : Ran :=
 if 1 ≤ x.op ∧ x.op ≤ 19 then ⟨if (binP x.op (regV S x.b) (regV S x.c)).2 then .nilIface else stopV 2 0, reckF S x.op x.a (regV S x.b) (regV S x.c), m, inp, out⟩
 else if 33 ≤ x.op ∧ x.op ≤ 51 then ⟨if (binP (x.op - 32) (regV S x.b) (x.imm % 4294967296)).2 then .nilIface else stopV 2 0, reckF S (x.op - 32) x.a (regV S x.b) (x.imm % 4294967296), m, inp, out⟩
 else if (80 ≤ x.op ∧ x.op ≤ 84) ∨ (88 ≤ x.op ∧ x.op ≤ 90) then ⟨errT (accE S x), accCM m S x, accMM m S x, inp, out⟩
 else if x.op = 64 then ⟨.nilIface, setR S x.a (x.imm % 4294967296), m, inp, out⟩
 else if x.op = 65 then ⟨.nilIface, setR S x.a (bits .or .u32 (bits .and .u32 (regV S x.a) 65535) (shl .u32 (x.imm % 4294967296) 16)), m, inp, out⟩
 else if x.op = 96 then ⟨.nilIface, { S with pc := jumpF S.pc x.imm }, m, inp, out⟩
 else if x.op = 97 then ⟨.nilIface, if regV S x.a = 0 then { S with pc := jumpF S.pc x.imm } else S, m, inp, out⟩
 else if x.op = 98 then ⟨.nilIface, if regV S x.a = 0 then S else { S with pc := jumpF S.pc x.imm }, m, inp, out⟩
 else if x.op = 99 then ⟨.nilIface, { setR S 14 S.pc with pc := jumpF S.pc x.imm }, m, inp, out⟩
 else if x.op = 100 then ⟨.nilIface, { S with pc := regV S x.a }, m, inp, out⟩
 else if x.op = 104 then
  if regV S 15 < x.imm % 4294967296 ∨ regV S 15 - x.imm % 4294967296 < 4194304 then ⟨errT 4, S, m, inp, out⟩ else ⟨.nilIface, setR S 15 (regV S 15 - x.imm % 4294967296), m, inp, out⟩
 else if x.op = 105 then ⟨.nilIface, setR S 15 ((regV S 15 + x.imm % 4294967296) % 4294967296), m, inp, out⟩
 else if x.op = 112 then ⟨.nilIface, S, m, inp, out ++ [regV S x.a % 256]⟩
 else if x.op = 113 then (match inp with
  | [] => ⟨.nilIface, setR S x.a 4294967295, m, inp, out⟩
  | b :: rest => ⟨.nilIface, setR S x.a b, m, rest, out⟩)
 else ⟨stopV 1 (if regV S x.a < 2147483648 then regV S x.a else regV S x.a - 4294967296), S, m, inp, out⟩
def fetchM (m : Nat → Int) (code : Int) (at_ : Int) : Option I5 := if at_ % 4 ≠ 0 ∨ at_ < 4096 ∨ at_ > 4096 + code - 4 then none else decF (wordM m at_.toNat 4 false)
def endM (r : Ran) : Ran := match endOf r.err with
 | none => r
 | some (a, b) => { r with S := { r.S with ended := a, exit := b } }
def stepM (m : Nat → Int) (S : Cpu) (inp out : List Int) : Ran :=
 if S.ended ≠ 0 then ⟨.nilIface, S, m, inp, out⟩ else
 match fetchM m S.code S.pc with
 | none => ⟨.nilIface, { S with steps := S.steps + 1, ended := 6, exit := 3 }, m, inp, out⟩
 | some x => endM (doM m { S with steps := S.steps + 1, pc := (S.pc + 4) % 4294967296 } x inp out)
/-- A run of at most n steps. -/
def runM : Nat → Ran → Ran
 | 0, r => r
 | n + 1, r => if r.S.ended ≠ 0 then r else runM n (stepM r.m r.S r.inp r.out)
/-- Where the input and the output lie does not matter. -/
def reV (S : Cpu) (a b : Value) : Cpu := { S with inV := a, outV := b }
theorem reck_v (S : Cpu) (a b : Value) (op : Int) (k : Nat) (x y : Int) : reckF (reV S a b) op k x y = reV (reckF S op k x y) a b := by unfold reckF; split <;> rfl
theorem load_v (m : Nat → Int) (S : Cpu) (a b : Value) (x : I5) (n : Int) (sg : Bool) : loadM m (reV S a b) x n sg = reV (loadM m S x n sg) a b := by
 show (if mayF S.code (addrF S x) n false = 0 then _ else _) = reV (if mayF S.code (addrF S x) n false = 0 then _ else _) a b
 split <;> rfl
theorem accC_v (m : Nat → Int) (S : Cpu) (a b : Value) (x : I5) : accCM m (reV S a b) x = reV (accCM m S x) a b := by
 unfold accCM
 split
 ·exact load_v ..
 ·rfl
def Ran.reV (r : Ran) (a b : Value) : Ran := { r with S := Ma.reV r.S a b }
theorem do_v (m : Nat → Int) (S : Cpu) (a b : Value) (x : I5) (inp out : List Int) : doM m (reV S a b) x inp out = (doM m S x inp out).reV a b := by
 have r1 : ∀ k, regV (reV S a b) k = regV S k := fun _ => rfl
 unfold doM
 by_cases c : 1 ≤ x.op ∧ x.op ≤ 19
 ·rw [if_pos c, if_pos c]; first | rfl | (show Ran.mk _ _ _ _ _ = Ran.mk _ _ _ _ _; congr 1; first | exact reck_v .. | exact accC_v ..) | (simp only [r1]; split <;> rfl) | (cases inp <;> rfl)
 rw [if_neg c, if_neg c]; clear c
 by_cases c : 33 ≤ x.op ∧ x.op ≤ 51
 ·rw [if_pos c, if_pos c]; first | rfl | (show Ran.mk _ _ _ _ _ = Ran.mk _ _ _ _ _; congr 1; first | exact reck_v .. | exact accC_v ..) | (simp only [r1]; split <;> rfl) | (cases inp <;> rfl)
 rw [if_neg c, if_neg c]; clear c
 by_cases c : (80 ≤ x.op ∧ x.op ≤ 84) ∨ (88 ≤ x.op ∧ x.op ≤ 90)
 ·rw [if_pos c, if_pos c]; first | rfl | (show Ran.mk _ _ _ _ _ = Ran.mk _ _ _ _ _; congr 1; first | exact reck_v .. | exact accC_v ..) | (simp only [r1]; split <;> rfl) | (cases inp <;> rfl)
 rw [if_neg c, if_neg c]; clear c
 by_cases c : x.op = 64
 ·rw [if_pos c, if_pos c]; first | rfl | (show Ran.mk _ _ _ _ _ = Ran.mk _ _ _ _ _; congr 1; first | exact reck_v .. | exact accC_v ..) | (simp only [r1]; split <;> rfl) | (cases inp <;> rfl)
 rw [if_neg c, if_neg c]; clear c
 by_cases c : x.op = 65
 ·rw [if_pos c, if_pos c]; first | rfl | (show Ran.mk _ _ _ _ _ = Ran.mk _ _ _ _ _; congr 1; first | exact reck_v .. | exact accC_v ..) | (simp only [r1]; split <;> rfl) | (cases inp <;> rfl)
 rw [if_neg c, if_neg c]; clear c
 by_cases c : x.op = 96
 ·rw [if_pos c, if_pos c]; first | rfl | (show Ran.mk _ _ _ _ _ = Ran.mk _ _ _ _ _; congr 1; first | exact reck_v .. | exact accC_v ..) | (simp only [r1]; split <;> rfl) | (cases inp <;> rfl)
 rw [if_neg c, if_neg c]; clear c
 by_cases c : x.op = 97
 ·rw [if_pos c, if_pos c]; first | rfl | (show Ran.mk _ _ _ _ _ = Ran.mk _ _ _ _ _; congr 1; first | exact reck_v .. | exact accC_v ..) | (simp only [r1]; split <;> rfl) | (cases inp <;> rfl)
 rw [if_neg c, if_neg c]; clear c
 by_cases c : x.op = 98
 ·rw [if_pos c, if_pos c]; first | rfl | (show Ran.mk _ _ _ _ _ = Ran.mk _ _ _ _ _; congr 1; first | exact reck_v .. | exact accC_v ..) | (simp only [r1]; split <;> rfl) | (cases inp <;> rfl)
 rw [if_neg c, if_neg c]; clear c
 by_cases c : x.op = 99
 ·rw [if_pos c, if_pos c]; first | rfl | (show Ran.mk _ _ _ _ _ = Ran.mk _ _ _ _ _; congr 1; first | exact reck_v .. | exact accC_v ..) | (simp only [r1]; split <;> rfl) | (cases inp <;> rfl)
 rw [if_neg c, if_neg c]; clear c
 by_cases c : x.op = 100
 ·rw [if_pos c, if_pos c]; first | rfl | (show Ran.mk _ _ _ _ _ = Ran.mk _ _ _ _ _; congr 1; first | exact reck_v .. | exact accC_v ..) | (simp only [r1]; split <;> rfl) | (cases inp <;> rfl)
 rw [if_neg c, if_neg c]; clear c
 by_cases c : x.op = 104
 ·rw [if_pos c, if_pos c]; first | rfl | (show Ran.mk _ _ _ _ _ = Ran.mk _ _ _ _ _; congr 1; first | exact reck_v .. | exact accC_v ..) | (simp only [r1]; split <;> rfl) | (cases inp <;> rfl)
 rw [if_neg c, if_neg c]; clear c
 by_cases c : x.op = 105
 ·rw [if_pos c, if_pos c]; first | rfl | (show Ran.mk _ _ _ _ _ = Ran.mk _ _ _ _ _; congr 1; first | exact reck_v .. | exact accC_v ..) | (simp only [r1]; split <;> rfl) | (cases inp <;> rfl)
 rw [if_neg c, if_neg c]; clear c
 by_cases c : x.op = 112
 ·rw [if_pos c, if_pos c]; first | rfl | (show Ran.mk _ _ _ _ _ = Ran.mk _ _ _ _ _; congr 1; first | exact reck_v .. | exact accC_v ..) | (simp only [r1]; split <;> rfl) | (cases inp <;> rfl)
 rw [if_neg c, if_neg c]; clear c
 by_cases c : x.op = 113
 ·rw [if_pos c, if_pos c]; first | rfl | (show Ran.mk _ _ _ _ _ = Ran.mk _ _ _ _ _; congr 1; first | exact reck_v .. | exact accC_v ..) | (simp only [r1]; split <;> rfl) | (cases inp <;> rfl)
 rw [if_neg c, if_neg c]; clear c
 rfl
theorem end_v (r : Ran) (a b : Value) : endM (r.reV a b) = (endM r).reV a b := by
 unfold endM
 show (match endOf r.err with | none => _ | some (p, q) => _) = Ran.reV (match endOf r.err with | none => _ | some (p, q) => _) a b
 cases endOf r.err with
 | none => rfl
 | some pq => rfl
theorem step_v (m : Nat → Int) (S : Cpu) (a b : Value) (inp out : List Int) : stepM m (reV S a b) inp out = (stepM m S inp out).reV a b := by
 unfold stepM
 by_cases h : S.ended ≠ 0
 ·rw [if_pos h, if_pos (show (reV S a b).ended ≠ 0 from h)]; rfl
 ·rw [if_neg h, if_neg (show ¬ (reV S a b).ended ≠ 0 from h)]
  show (match fetchM m S.code S.pc with | none => _ | some x => _) = Ran.reV (match fetchM m S.code S.pc with | none => _ | some x => _) a b
  cases fetchM m S.code S.pc with
  | none => rfl
  | some x =>
   show endM (doM m (reV { S with steps := S.steps + 1, pc := (S.pc + 4) % 4294967296 } a b) x inp out) = _
   rw [do_v, end_v]
/-- What an instruction leaves as it was. -/
theorem do_keeps (m : Nat → Int) (S : Cpu) (x : I5) (inp out : List Int) : (doM m S x inp out).S.steps = S.steps ∧ (doM m S x inp out).S.code = S.code ∧ ((doM m S x inp out).out = out ∨ ∃ v, (doM m S x inp out).out = out ++ [v]) ∧ ((doM m S x inp out).inp = inp ∨ ∃ v, inp = v :: (doM m S x inp out).inp) := by
 have k1 : ∀ op k a b, (reckF S op k a b).steps = S.steps ∧ (reckF S op k a b).code = S.code := by intro op k a b; unfold reckF; split <;> exact ⟨rfl, rfl⟩
 have k2 : (accCM m S x).steps = S.steps ∧ (accCM m S x).code = S.code := by
  unfold accCM
  split
  ·unfold loadM; split <;> exact ⟨rfl, rfl⟩
  ·exact ⟨rfl, rfl⟩
 unfold doM
 by_cases c : 1 ≤ x.op ∧ x.op ≤ 19
 ·rw [if_pos c]; first | exact ⟨(k1 _ _ _ _).1, (k1 _ _ _ _).2, .inl rfl, .inl rfl⟩ | exact ⟨k2.1, k2.2, .inl rfl, .inl rfl⟩ | exact ⟨rfl, rfl, .inl rfl, .inl rfl⟩ | exact ⟨rfl, rfl, .inr ⟨_, rfl⟩, .inl rfl⟩ | (split; exact ⟨rfl, rfl, .inl rfl, .inl rfl⟩; exact ⟨rfl, rfl, .inl rfl, .inl rfl⟩) | (cases inp; exact ⟨rfl, rfl, .inl rfl, .inl rfl⟩; exact ⟨rfl, rfl, .inl rfl, .inr ⟨_, rfl⟩⟩)
 rw [if_neg c]; clear c
 by_cases c : 33 ≤ x.op ∧ x.op ≤ 51
 ·rw [if_pos c]; first | exact ⟨(k1 _ _ _ _).1, (k1 _ _ _ _).2, .inl rfl, .inl rfl⟩ | exact ⟨k2.1, k2.2, .inl rfl, .inl rfl⟩ | exact ⟨rfl, rfl, .inl rfl, .inl rfl⟩ | exact ⟨rfl, rfl, .inr ⟨_, rfl⟩, .inl rfl⟩ | (split; exact ⟨rfl, rfl, .inl rfl, .inl rfl⟩; exact ⟨rfl, rfl, .inl rfl, .inl rfl⟩) | (cases inp; exact ⟨rfl, rfl, .inl rfl, .inl rfl⟩; exact ⟨rfl, rfl, .inl rfl, .inr ⟨_, rfl⟩⟩)
 rw [if_neg c]; clear c
 by_cases c : (80 ≤ x.op ∧ x.op ≤ 84) ∨ (88 ≤ x.op ∧ x.op ≤ 90)
 ·rw [if_pos c]; first | exact ⟨(k1 _ _ _ _).1, (k1 _ _ _ _).2, .inl rfl, .inl rfl⟩ | exact ⟨k2.1, k2.2, .inl rfl, .inl rfl⟩ | exact ⟨rfl, rfl, .inl rfl, .inl rfl⟩ | exact ⟨rfl, rfl, .inr ⟨_, rfl⟩, .inl rfl⟩ | (split; exact ⟨rfl, rfl, .inl rfl, .inl rfl⟩; exact ⟨rfl, rfl, .inl rfl, .inl rfl⟩) | (cases inp; exact ⟨rfl, rfl, .inl rfl, .inl rfl⟩; exact ⟨rfl, rfl, .inl rfl, .inr ⟨_, rfl⟩⟩)
 rw [if_neg c]; clear c
 by_cases c : x.op = 64
 ·rw [if_pos c]; first | exact ⟨(k1 _ _ _ _).1, (k1 _ _ _ _).2, .inl rfl, .inl rfl⟩ | exact ⟨k2.1, k2.2, .inl rfl, .inl rfl⟩ | exact ⟨rfl, rfl, .inl rfl, .inl rfl⟩ | exact ⟨rfl, rfl, .inr ⟨_, rfl⟩, .inl rfl⟩ | (split; exact ⟨rfl, rfl, .inl rfl, .inl rfl⟩; exact ⟨rfl, rfl, .inl rfl, .inl rfl⟩) | (cases inp; exact ⟨rfl, rfl, .inl rfl, .inl rfl⟩; exact ⟨rfl, rfl, .inl rfl, .inr ⟨_, rfl⟩⟩)
 rw [if_neg c]; clear c
 by_cases c : x.op = 65
 ·rw [if_pos c]; first | exact ⟨(k1 _ _ _ _).1, (k1 _ _ _ _).2, .inl rfl, .inl rfl⟩ | exact ⟨k2.1, k2.2, .inl rfl, .inl rfl⟩ | exact ⟨rfl, rfl, .inl rfl, .inl rfl⟩ | exact ⟨rfl, rfl, .inr ⟨_, rfl⟩, .inl rfl⟩ | (split; exact ⟨rfl, rfl, .inl rfl, .inl rfl⟩; exact ⟨rfl, rfl, .inl rfl, .inl rfl⟩) | (cases inp; exact ⟨rfl, rfl, .inl rfl, .inl rfl⟩; exact ⟨rfl, rfl, .inl rfl, .inr ⟨_, rfl⟩⟩)
 rw [if_neg c]; clear c
 by_cases c : x.op = 96
 ·rw [if_pos c]; first | exact ⟨(k1 _ _ _ _).1, (k1 _ _ _ _).2, .inl rfl, .inl rfl⟩ | exact ⟨k2.1, k2.2, .inl rfl, .inl rfl⟩ | exact ⟨rfl, rfl, .inl rfl, .inl rfl⟩ | exact ⟨rfl, rfl, .inr ⟨_, rfl⟩, .inl rfl⟩ | (split; exact ⟨rfl, rfl, .inl rfl, .inl rfl⟩; exact ⟨rfl, rfl, .inl rfl, .inl rfl⟩) | (cases inp; exact ⟨rfl, rfl, .inl rfl, .inl rfl⟩; exact ⟨rfl, rfl, .inl rfl, .inr ⟨_, rfl⟩⟩)
 rw [if_neg c]; clear c
 by_cases c : x.op = 97
 ·rw [if_pos c]; first | exact ⟨(k1 _ _ _ _).1, (k1 _ _ _ _).2, .inl rfl, .inl rfl⟩ | exact ⟨k2.1, k2.2, .inl rfl, .inl rfl⟩ | exact ⟨rfl, rfl, .inl rfl, .inl rfl⟩ | exact ⟨rfl, rfl, .inr ⟨_, rfl⟩, .inl rfl⟩ | (split; exact ⟨rfl, rfl, .inl rfl, .inl rfl⟩; exact ⟨rfl, rfl, .inl rfl, .inl rfl⟩) | (cases inp; exact ⟨rfl, rfl, .inl rfl, .inl rfl⟩; exact ⟨rfl, rfl, .inl rfl, .inr ⟨_, rfl⟩⟩)
 rw [if_neg c]; clear c
 by_cases c : x.op = 98
 ·rw [if_pos c]; first | exact ⟨(k1 _ _ _ _).1, (k1 _ _ _ _).2, .inl rfl, .inl rfl⟩ | exact ⟨k2.1, k2.2, .inl rfl, .inl rfl⟩ | exact ⟨rfl, rfl, .inl rfl, .inl rfl⟩ | exact ⟨rfl, rfl, .inr ⟨_, rfl⟩, .inl rfl⟩ | (split; exact ⟨rfl, rfl, .inl rfl, .inl rfl⟩; exact ⟨rfl, rfl, .inl rfl, .inl rfl⟩) | (cases inp; exact ⟨rfl, rfl, .inl rfl, .inl rfl⟩; exact ⟨rfl, rfl, .inl rfl, .inr ⟨_, rfl⟩⟩)
 rw [if_neg c]; clear c
 by_cases c : x.op = 99
 ·rw [if_pos c]; first | exact ⟨(k1 _ _ _ _).1, (k1 _ _ _ _).2, .inl rfl, .inl rfl⟩ | exact ⟨k2.1, k2.2, .inl rfl, .inl rfl⟩ | exact ⟨rfl, rfl, .inl rfl, .inl rfl⟩ | exact ⟨rfl, rfl, .inr ⟨_, rfl⟩, .inl rfl⟩ | (split; exact ⟨rfl, rfl, .inl rfl, .inl rfl⟩; exact ⟨rfl, rfl, .inl rfl, .inl rfl⟩) | (cases inp; exact ⟨rfl, rfl, .inl rfl, .inl rfl⟩; exact ⟨rfl, rfl, .inl rfl, .inr ⟨_, rfl⟩⟩)
 rw [if_neg c]; clear c
 by_cases c : x.op = 100
 ·rw [if_pos c]; first | exact ⟨(k1 _ _ _ _).1, (k1 _ _ _ _).2, .inl rfl, .inl rfl⟩ | exact ⟨k2.1, k2.2, .inl rfl, .inl rfl⟩ | exact ⟨rfl, rfl, .inl rfl, .inl rfl⟩ | exact ⟨rfl, rfl, .inr ⟨_, rfl⟩, .inl rfl⟩ | (split; exact ⟨rfl, rfl, .inl rfl, .inl rfl⟩; exact ⟨rfl, rfl, .inl rfl, .inl rfl⟩) | (cases inp; exact ⟨rfl, rfl, .inl rfl, .inl rfl⟩; exact ⟨rfl, rfl, .inl rfl, .inr ⟨_, rfl⟩⟩)
 rw [if_neg c]; clear c
 by_cases c : x.op = 104
 ·rw [if_pos c]; first | exact ⟨(k1 _ _ _ _).1, (k1 _ _ _ _).2, .inl rfl, .inl rfl⟩ | exact ⟨k2.1, k2.2, .inl rfl, .inl rfl⟩ | exact ⟨rfl, rfl, .inl rfl, .inl rfl⟩ | exact ⟨rfl, rfl, .inr ⟨_, rfl⟩, .inl rfl⟩ | (split; exact ⟨rfl, rfl, .inl rfl, .inl rfl⟩; exact ⟨rfl, rfl, .inl rfl, .inl rfl⟩) | (cases inp; exact ⟨rfl, rfl, .inl rfl, .inl rfl⟩; exact ⟨rfl, rfl, .inl rfl, .inr ⟨_, rfl⟩⟩)
 rw [if_neg c]; clear c
 by_cases c : x.op = 105
 ·rw [if_pos c]; first | exact ⟨(k1 _ _ _ _).1, (k1 _ _ _ _).2, .inl rfl, .inl rfl⟩ | exact ⟨k2.1, k2.2, .inl rfl, .inl rfl⟩ | exact ⟨rfl, rfl, .inl rfl, .inl rfl⟩ | exact ⟨rfl, rfl, .inr ⟨_, rfl⟩, .inl rfl⟩ | (split; exact ⟨rfl, rfl, .inl rfl, .inl rfl⟩; exact ⟨rfl, rfl, .inl rfl, .inl rfl⟩) | (cases inp; exact ⟨rfl, rfl, .inl rfl, .inl rfl⟩; exact ⟨rfl, rfl, .inl rfl, .inr ⟨_, rfl⟩⟩)
 rw [if_neg c]; clear c
 by_cases c : x.op = 112
 ·rw [if_pos c]; first | exact ⟨(k1 _ _ _ _).1, (k1 _ _ _ _).2, .inl rfl, .inl rfl⟩ | exact ⟨k2.1, k2.2, .inl rfl, .inl rfl⟩ | exact ⟨rfl, rfl, .inl rfl, .inl rfl⟩ | exact ⟨rfl, rfl, .inr ⟨_, rfl⟩, .inl rfl⟩ | (split; exact ⟨rfl, rfl, .inl rfl, .inl rfl⟩; exact ⟨rfl, rfl, .inl rfl, .inl rfl⟩) | (cases inp; exact ⟨rfl, rfl, .inl rfl, .inl rfl⟩; exact ⟨rfl, rfl, .inl rfl, .inr ⟨_, rfl⟩⟩)
 rw [if_neg c]; clear c
 by_cases c : x.op = 113
 ·rw [if_pos c]; first | exact ⟨(k1 _ _ _ _).1, (k1 _ _ _ _).2, .inl rfl, .inl rfl⟩ | exact ⟨k2.1, k2.2, .inl rfl, .inl rfl⟩ | exact ⟨rfl, rfl, .inl rfl, .inl rfl⟩ | exact ⟨rfl, rfl, .inr ⟨_, rfl⟩, .inl rfl⟩ | (split; exact ⟨rfl, rfl, .inl rfl, .inl rfl⟩; exact ⟨rfl, rfl, .inl rfl, .inl rfl⟩) | (cases inp; exact ⟨rfl, rfl, .inl rfl, .inl rfl⟩; exact ⟨rfl, rfl, .inl rfl, .inr ⟨_, rfl⟩⟩)
 rw [if_neg c]; clear c
 exact ⟨rfl, rfl, .inl rfl, .inl rfl⟩
theorem end_keeps (r : Ran) : (endM r).S.steps = r.S.steps ∧ (endM r).S.code = r.S.code ∧ (endM r).out = r.out ∧ (endM r).inp = r.inp := by
 unfold endM
 split <;> exact ⟨rfl, rfl, rfl, rfl⟩
theorem step_keeps (m : Nat → Int) (S : Cpu) (inp out : List Int) (h : S.ended = 0) : (stepM m S inp out).S.steps = S.steps + 1 ∧ (stepM m S inp out).S.code = S.code ∧ ((stepM m S inp out).out = out ∨ ∃ v, (stepM m S inp out).out = out ++ [v]) ∧ ((stepM m S inp out).inp = inp ∨ ∃ v, inp = v :: (stepM m S inp out).inp) := by
 unfold stepM
 rw [if_neg (by simp [h])]
 cases fetchM m S.code S.pc with
 | none => exact ⟨rfl, rfl, .inl rfl, .inl rfl⟩
 | some x =>
  obtain ⟨a1, a2, a3, a4⟩ := end_keeps (doM m { S with steps := S.steps + 1, pc := (S.pc + 4) % 4294967296 } x inp out)
  obtain ⟨b1, b2, b3, b4⟩ := do_keeps m { S with steps := S.steps + 1, pc := (S.pc + 4) % 4294967296 } x inp out
  simp only [a1, a2, a3, a4]
  exact ⟨b1, b2, b3, b4⟩
end Go.Proofs.Ytejhnlljddjicaa.Ma
namespace Go.Proofs.Ytejhnlljddjicaa.Ma
open Go.RowKit Go.Proofs.Ytejhnlljddjicaa.PLk Go.Proofs.YtejhnlljddjicaaW.PrintWords Go.Proofs.YtejhnlljddjicaaW.PrintLast Go.Proofs.YtejhnlljddjicaaW.PrintMore Go.Proofs.Ytejhnlljddjicaa.La
set_option linter.unusedVariables false
set_option linter.unusedSimpArgs false
variable {w w' : World} {c pg : Nat} {ps ps' : Pages} {S S' : Cpu} {inp out inp' out' : List Int}
/-- Bytes laid from an address on. -/
def laidF (m : Nat → Int) (at0 : Nat) (xs : List Int) (i : Nat) : Int := if at0 ≤ i ∧ i < at0 + xs.length then (xs[i - at0]?).getD 0 else m i
/-- A run's beginning. -/
def startR (bs : List Int) (code entry : Int) (inp : List Int) : Ran := ⟨.nilIface, ⟨code, entry, List.replicate 15 0 ++ [8388608], 0, .nilIface, .nilIface, 0, 0⟩, laidF (fun _ => 0) 4096 bs, inp, []⟩
def stopOf (r : Ran) : Int := if r.S.ended ≠ 0 then r.S.ended else 4
end Go.Proofs.Ytejhnlljddjicaa.Ma
namespace Go.Proofs.Ytejhnlljddjicaa.Ma
open Go.RowKit Go.Proofs.Ytejhnlljddjicaa.PLk Go.Proofs.YtejhnlljddjicaaW.PrintWords Go.Proofs.YtejhnlljddjicaaW.PrintLast Go.Proofs.YtejhnlljddjicaaW.PrintMore Go.Proofs.Ytejhnlljddjicaa.La
set_option linter.unusedVariables false
set_option linter.unusedSimpArgs false
variable {w w' : World} {c pg : Nat} {ps ps' : Pages} {S S' : Cpu} {inp out inp' out' : List Int}
theorem R_row {W : World} {base b2 g : Nat} {v : Value} {xs : List Int} (hV : Kd.R (Kd.int .u8) 5 W base (fun _ => True) v xs) (hg : g < base) (hb : b2 ≤ base) (cs : Array Value) : Kd.R (Kd.int .u8) 5 (W.setRow g cs) b2 (fun _ => True) v xs :=
 Kd.R_mono (Kd.R_lower (Kd.R_step (Kd.R_tight rfl hV) (fun k hk _ => setRow_other W g k cs (by have := Kd.R_base hV k hk.symm; omega))) hb) (fun _ _ => trivial)
theorem run_still (n : Nat) (r : Ran) (h : r.S.ended ≠ 0) : runM n r = r := by
 cases n with
 | zero => rfl
 | succ n => unfold runM; rw [if_pos h]
end Go.Proofs.Ytejhnlljddjicaa.Ma
namespace Go.Proofs.Ytejhnlljddjicaa.Ma
open Go.RowKit Go.Proofs.Ytejhnlljddjicaa.PLk Go.Proofs.YtejhnlljddjicaaW.PrintWords Go.Proofs.YtejhnlljddjicaaW.PrintLast Go.Proofs.YtejhnlljddjicaaW.PrintMore Go.Proofs.Ytejhnlljddjicaa.La
set_option linter.unusedVariables false
set_option linter.unusedSimpArgs false
variable {w w' : World} {c pg : Nat} {ps ps' : Pages} {S S' : Cpu} {inp out inp' out' : List Int}
theorem or_low (n : Nat) (x y : Int) (hx : 0 ≤ x ∧ x < 2 ^ n ∧ x < 4294967296) (hy : 0 ≤ y ∧ y < 4294967296 ∧ y % 2 ^ n = 0) : bits .or .u32 x y = x + y := by
 have h := bits_join .u32 32 (by decide) wraps_u32 n y x hy.1 hy.2.2 hy.2.1 hx.1 hx.2.1 hx.2.2
 rw [or_bv] at h ⊢
 rw [BitVec.or_comm, h]; omega
def Ran.more (r : Ran) (t : List Int) : Ran := { r with inp := r.inp ++ t }
/-- The instruction ahead asks for input (or would, did it decode). -/
def asks (r : Ran) : Prop := r.S.pc % 4 = 0 ∧ r.S.pc ≤ 8388604 ∧ r.m r.S.pc.toNat = 113
instance (r : Ran) : Decidable (asks r) := inferInstanceAs (Decidable (_ ∧ _))
/-- How often a run of at most n steps asks. -/
def asked : Nat → Ran → Nat
 | 0, _ => 0
 | n + 1, r => if r.S.ended ≠ 0 then 0 else (if asks r then 1 else 0) + asked n (stepM r.m r.S r.inp r.out)
end Go.Proofs.Ytejhnlljddjicaa.Ma
namespace Go.Proofs.Ytejhnlljddjicaa.Ma
open Go.RowKit Go.Proofs.Ytejhnlljddjicaa.PLk Go.Proofs.YtejhnlljddjicaaW.PrintWords Go.Proofs.YtejhnlljddjicaaW.PrintLast Go.Proofs.YtejhnlljddjicaaW.PrintMore Go.Proofs.Ytejhnlljddjicaa.La
set_option linter.unusedVariables false
set_option linter.unusedSimpArgs false
variable {w w' : World} {c pg : Nat} {ps ps' : Pages} {S S' : Cpu} {inp out inp' out' : List Int}
theorem inf5 : (Try.prog.info? 5).map (fun i => (i.zero, i.size, i.bytes)) = some (some (.int .u8 0), 1, 1) := by kernel_rfl
theorem R_empty (W : World) {base : Nat} (hb : base ≤ W.heap.size) : Kd.R (Kd.int .u8) 5 (W.alloc (.cells #[] 5)) base (fun _ => True) (.slice (some ⟨W.heap.size, 0, none⟩) 0 0) [] :=
 ⟨fun _ _ => trivial, [], World.ownsRow_lit (base := base) (e := 5) (size := (Kd.int .u8).sz) W #[] 0 hb (Nat.zero_le _) rfl, Reps.none _ _⟩
theorem bytes_M {W : World} {base : Nat} {x : Int} {cs : List Value} (h : (Kd.int .u8).K W x cs) : (Kd.int .u8).M W base (fun _ => False) x cs := h
section
variable {ops : Array Oper} {o : Oper} {a : Act} {Kc : Act → World → Prop} {Q : Exit → Act → World → Prop}
/-- An append of bytes, at a step of a region that draws. -/
theorem app_step {w0 W : World} {v : Value} (hw : Region.wanted o (yielded ops a.tmps) = true) (s x : Operand) (ho : o.op = .call { callee := .builtin .append, args := #[s, x], argTypes := #[23, 23] })
  (xs ys zs : List Int) (hz : xs ++ ys = zs) (A : Option Addr) (m c : Nat) (HO : Kd.R (Kd.int .u8) 5 W w0.heap.size (fun _ => True) v xs) (HR : Kd.C (Kd.int .u8) w0 A m ys) (HB : Below w0.heap.size w0 W) (hl : xs.length + m ≤ 140737488355328)
  (hs : a.eval s = v) (hx : a.eval x = .slice A m c)
  (h : ∀ A1 c1 w1, Kd.R (Kd.int .u8) 5 w1 w0.heap.size (fun _ => True) (.slice A1 zs.length c1) zs → Below w0.heap.size w0 w1 → (∀ g b, W.heap[g]? = some b → some g ≠ v.ownBlock → w1.heap[g]? = some b ∧ some g ≠ (Value.slice A1 zs.length c1).ownBlock) → Kc (a.put o.dst (.slice A1 zs.length c1)) w1) :
  if Region.wanted o (yielded ops a.tmps) = true then Oper.wp Try.prog o a W Kc Q else Kc (a.put o.dst undef) W := by
 subst hz
 refine Kd.R_append_rows_step (P := Try.prog) (Kd.int .u8) (Rr := (Kd.int .u8).K W) (w0 := w0) w0.heap.size hw s x 23 5 (.int .u8 0) 1 ho Try.underlying23 inf5 rfl (by decide) (by decide) v xs ys A m c (fun _ => True) (fun _ => False) hs hx HO (Kd.C_below HR HB) (fun _ _ hk => bytes_M hk) (fun _ hk => hk.elim) (fun _ _ => trivial) HB HB.size (by rw [Nat.mul_one]; exact hl) ?_
 intro v1 w1 hR hB hG hat
 obtain ⟨A1, c1, rfl⟩ := Kd.R_slice hR
 refine h A1 c1 w1 hR hB (fun g b hg hne => ⟨(hG.block g (lt_of_at hg) hne).trans hg, fun e => ?_⟩)
 rcases hat with e1 | ⟨b1, e1, hb⟩
 ·exact hne (e.trans e1)
 ·have := lt_of_at hg
  rw [e1] at e
  injection e with e
  omega
end
section
variable {ops : Array Oper} {rest : List Oper} {o : Oper} {a : Act} {Q : Exit → Act → World → Prop}
end
theorem R_setcell {W : World} {base g : Nat} {v : Value} {xs : List Int} (hV : Kd.R (Kd.int .u8) 5 W base (fun _ => True) v xs) (hg : g < base) (i : Nat) (u : Value) : Kd.R (Kd.int .u8) 5 (W.setCell ⟨g, i, none⟩ u) base (fun _ => True) v xs :=
 Kd.R_mono (Kd.R_far (p := ⟨g, i, none⟩) (Kd.R_tight rfl hV) (fun q hq e => by have h1 := Kd.R_base hV q hq.symm; rw [e] at h1; exact absurd h1 (by show ¬ base ≤ g; omega)) u) (fun _ _ => trivial)
end Go.Proofs.Ytejhnlljddjicaa.Ma
