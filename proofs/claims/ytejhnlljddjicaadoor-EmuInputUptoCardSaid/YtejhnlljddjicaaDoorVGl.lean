/- An append of bytes in a region that draws, a struct of four cells that is stored. No condition beyond those each theorem names. And more of the kind: 1 texts in one. -/
import Derived.Test.YtejhnlljddjicaaDoorVGk
namespace Go.Proofs.YtejhnlljddjicaaDoor.Ma
open Go.RowKit Go.Proofs.YtejhnlljddjicaaDoor.PEm Go.Proofs.YtejhnlljddjicaaDoorW.PrintWords Go.Proofs.YtejhnlljddjicaaDoorW.PrintLast Go.Proofs.YtejhnlljddjicaaDoorW.PrintMore Go.Proofs.YtejhnlljddjicaaDoor.La Go.Proofs.YtejhnlljddjicaaDoor.Ea
set_option linter.unusedVariables false
set_option linter.unusedSimpArgs false
variable {w w' : World} {c pg : Nat} {ps ps' : Pages} {S S' : Cpu} {inp out inp' out' : List Int}
theorem sz_drew (wr : World) (o : Obj) : (wr.drew.alloc o).heap.size = wr.heap.size + 1 := by
  have h : wr.drew.heap.size = wr.heap.size := rfl
  simp [h]
theorem at_two (wr : World) (o1 o2 : Obj) : ((wr.drew.alloc o1).alloc o2).heap[wr.heap.size + 1]? = some o2 := heap_at _ _ _ (sz_drew wr o1).symm
theorem at_one (wr : World) (o1 o2 : Obj) : ((wr.drew.alloc o1).alloc o2).heap[wr.heap.size]? = some o1 := blk_alloc (heap_at wr.drew o1 wr.heap.size rfl) o2
theorem ne_two (wr : World) (n c : Nat) : some (wr.heap.size + 1) ≠ (Value.slice (some ⟨wr.drew.heap.size, 0, none⟩) n c).ownBlock := fun e => absurd (show wr.heap.size + 1 = wr.heap.size from Option.some.inj e) (by omega)
theorem R_empty (W : World) {base : Nat} (hb : base ≤ W.heap.size) : Kd.R (Kd.int .u8) 5 (W.alloc (.cells #[] 5)) base (fun _ => True) (.slice (some ⟨W.heap.size, 0, none⟩) 0 0) [] :=
  ⟨fun _ _ => trivial, [], World.ownsRow_lit (base := base) (e := 5) (size := (Kd.int .u8).sz) W #[] 0 hb (Nat.zero_le _) rfl, Reps.none _ _⟩
theorem R_empty2 (wr : World) (o : Obj) {base : Nat} (hb : base ≤ wr.heap.size) : Kd.R (Kd.int .u8) 5 ((wr.drew.alloc o).alloc (.cells #[] 5)) base (fun _ => True) (.slice (some ⟨wr.heap.size + 1, 0, none⟩) 0 0) [] := by
  have h := R_empty (wr.drew.alloc o) (base := base) (by rw [sz_drew]; omega)
  rw [sz_drew] at h
  exact h
theorem ne_one2 (wr : World) (n c : Nat) : some wr.heap.size ≠ (Value.slice (some ⟨wr.heap.size + 1, 0, none⟩) n c).ownBlock := fun e => absurd (show wr.heap.size = wr.heap.size + 1 from Option.some.inj e) (by omega)
theorem bytes_M {W : World} {base : Nat} {x : Int} {cs : List Value} (h : (Kd.int .u8).K W x cs) : (Kd.int .u8).M W base (fun _ => False) x cs := h
section
variable {ops : Array Oper} {o : Oper} {a : Act} {Kc : Act → World → Prop} {Q : Exit → Act → World → Prop}
/-- An append of bytes, at a step of a region that draws. -/
theorem app_step {w0 W : World} {v : Value} (hw : Region.wanted o (yielded ops a.tmps) = true) (s x : Operand) (ho : o.op = .call { callee := .builtin .append, args := #[s, x], argTypes := #[22, 22] })
    (xs ys zs : List Int) (hz : xs ++ ys = zs) (A : Option Addr) (m c : Nat) (HO : Kd.R (Kd.int .u8) 5 W w0.heap.size (fun _ => True) v xs) (HR : Kd.C (Kd.int .u8) w0 A m ys) (HB : Below w0.heap.size w0 W) (hl : xs.length + m ≤ 140737488355328)
    (hs : a.eval s = v) (hx : a.eval x = .slice A m c)
    (h : ∀ A1 c1 w1, Kd.R (Kd.int .u8) 5 w1 w0.heap.size (fun _ => True) (.slice A1 zs.length c1) zs → Below w0.heap.size w0 w1 → (∀ g b, W.heap[g]? = some b → some g ≠ v.ownBlock → w1.heap[g]? = some b ∧ some g ≠ (Value.slice A1 zs.length c1).ownBlock) → Kc (a.put o.dst (.slice A1 zs.length c1)) w1) :
    if Region.wanted o (yielded ops a.tmps) = true then Oper.wp Tryd.prog o a W Kc Q else Kc (a.put o.dst undef) W := by
  subst hz
  refine Kd.R_append_rows_step (P := Tryd.prog) (Kd.int .u8) (Rr := (Kd.int .u8).K W) (w0 := w0) w0.heap.size hw s x 22 5 (.int .u8 0) 1 ho Tryd.underlying22 inf5 rfl (by decide) (by decide) v xs ys A m c (fun _ => True) (fun _ => False) hs hx HO (Kd.C_below HR HB) (fun _ _ hk => bytes_M hk) (fun _ hk => hk.elim) (fun _ _ => trivial) HB HB.size (by rw [Nat.mul_one]; exact hl) ?_
  intro v1 w1 hR hB hG hat
  obtain ⟨A1, c1, rfl⟩ := Kd.R_slice hR
  refine h A1 c1 w1 hR hB (fun g b hg hne => ⟨(hG.block g (lt_of_at hg) hne).trans hg, fun e => ?_⟩)
  rcases hat with e1 | ⟨b1, e1, hb⟩
  · exact hne (e.trans e1)
  · have := lt_of_at hg
    rw [e1] at e
    injection e with e
    omega
end
section
variable {ops : Array Oper} {rest : List Oper} {o : Oper} {a : Act} {Q : Exit → Act → World → Prop}
end
theorem R_setcell {W : World} {base g : Nat} {v : Value} {xs : List Int} (hV : Kd.R (Kd.int .u8) 5 W base (fun _ => True) v xs) (hg : g < base) (i : Nat) (u : Value) : Kd.R (Kd.int .u8) 5 (W.setCell ⟨g, i, none⟩ u) base (fun _ => True) v xs :=
  Kd.R_mono (Kd.R_far (p := ⟨g, i, none⟩) (Kd.R_tight rfl hV) (fun q hq e => by have h1 := Kd.R_base hV q hq.symm; rw [e] at h1; exact absurd h1 (by show ¬ base ≤ g; omega)) u) (fun _ _ => trivial)
theorem stored4 {W wr : World} {gz base k4 : Nat} {A4 : Option Addr} {xs : List Int} (hz : W.heap[gz]? = some (.cells #[.int .i64 0, .int .i64 0, .slice none 0 0, .int .i64 0] 27 (0, 0))) (hB : Below wr.heap.size wr W) (hg : wr.heap.size ≤ gz) (hlt : gz < base)
    (hV : Kd.R (Kd.int .u8) 5 W base (fun _ => True) (.slice A4 xs.length k4) xs) (a b d : Int) :
    Below wr.heap.size wr ((((W.setCell ⟨gz, 0, none⟩ (.int .i64 a)).setCell ⟨gz, 1, none⟩ (.int .i64 b)).setCell ⟨gz, 2, none⟩ (.slice A4 xs.length k4)).setCell ⟨gz, 3, none⟩ (.int .i64 d)) ∧
    ((((W.setCell ⟨gz, 0, none⟩ (.int .i64 a)).setCell ⟨gz, 1, none⟩ (.int .i64 b)).setCell ⟨gz, 2, none⟩ (.slice A4 xs.length k4)).setCell ⟨gz, 3, none⟩ (.int .i64 d)).heap[gz]? = some (.cells #[.int .i64 a, .int .i64 b, .slice A4 xs.length k4, .int .i64 d] 27 (0, 0)) ∧
    (Kd.C (Kd.int .u8) ((((W.setCell ⟨gz, 0, none⟩ (.int .i64 a)).setCell ⟨gz, 1, none⟩ (.int .i64 b)).setCell ⟨gz, 2, none⟩ (.slice A4 xs.length k4)).setCell ⟨gz, 3, none⟩ (.int .i64 d)) A4 xs.length xs ∧ xs.length ≤ k4) := by
  have h1 : (W.setCell ⟨gz, 0, none⟩ (.int .i64 a)).heap[gz]? = some (.cells #[.int .i64 a, .int .i64 0, .slice none 0 0, .int .i64 0] 27 (0, 0)) := blk_set hz 0 _
  have h2 : ((W.setCell ⟨gz, 0, none⟩ (.int .i64 a)).setCell ⟨gz, 1, none⟩ (.int .i64 b)).heap[gz]? = some (.cells #[.int .i64 a, .int .i64 b, .slice none 0 0, .int .i64 0] 27 (0, 0)) := blk_set h1 1 _
  have h3 : (((W.setCell ⟨gz, 0, none⟩ (.int .i64 a)).setCell ⟨gz, 1, none⟩ (.int .i64 b)).setCell ⟨gz, 2, none⟩ (.slice A4 xs.length k4)).heap[gz]? = some (.cells #[.int .i64 a, .int .i64 b, .slice A4 xs.length k4, .int .i64 0] 27 (0, 0)) := blk_set h2 2 _
  have v4 := R_setcell (R_setcell (R_setcell (R_setcell hV hlt 0 (.int .i64 a)) hlt 1 (.int .i64 b)) hlt 2 (.slice A4 xs.length k4)) hlt 3 (.int .i64 d)
  refine ⟨(((hB.setCell (p := ⟨gz, 0, none⟩) hg _).setCell (p := ⟨gz, 1, none⟩) hg _).setCell (p := ⟨gz, 2, none⟩) hg _).setCell (p := ⟨gz, 3, none⟩) hg _, blk_set h3 3 _, (Kd.R_reads' v4).2.2, (Kd.R_reads' v4).2.1⟩
end Go.Proofs.YtejhnlljddjicaaDoor.Ma
