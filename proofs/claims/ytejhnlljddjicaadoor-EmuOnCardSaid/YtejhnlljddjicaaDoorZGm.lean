/- EmuOn: what its walk comes to beyond the texts below. No condition beyond those each theorem names. -/
import Derived.Test.YtejhnlljddjicaaDoorZGl
import Derived.Test.YtejhnlljddjicaaDoorZPEmx0
import Derived.Test.YtejhnlljddjicaaDoorZPEmx1
import Derived.Test.YtejhnlljddjicaaDoorZPEmx10
import Derived.Test.YtejhnlljddjicaaDoorZPEmx11
import Derived.Test.YtejhnlljddjicaaDoorZPEmx2
import Derived.Test.YtejhnlljddjicaaDoorZPEmx3
import Derived.Test.YtejhnlljddjicaaDoorZPEmx4
import Derived.Test.YtejhnlljddjicaaDoorZPEmx5
import Derived.Test.YtejhnlljddjicaaDoorZPEmx6
import Derived.Test.YtejhnlljddjicaaDoorZPEmx7
import Derived.Test.YtejhnlljddjicaaDoorZPEmx8
import Derived.Test.YtejhnlljddjicaaDoorZPEmx9
import Derived.ArgAppend
import Derived.Below
import Derived.BigQuiet
import Derived.Deep.AppendLies
import Derived.Deep.CutBlock
import Derived.Deep.DeepCutAuto
import Derived.Deep.Draws
import Derived.Deep.LoopGhost
import Derived.Deep.OwnRows
import Derived.Deep.QuietTactic
import Derived.Deep.RegionHeld3
import Derived.KernelRfl
import Derived.Laws.BytesArg
import Derived.Laws.IdiomCopy
import Derived.Laws.MakeOwn
import Derived.Laws.OwnMore
import Derived.Laws.Rows
import Derived.Laws.Slices
import Derived.Lib.AppendStr
import Derived.Lib.ConvBytes
import Derived.Maps.AppendAt
import Derived.OwnWalk
import Derived.RowKit
import Derived.RowKit3
import Derived.Tactics
import Derived.WalkKit
import Derived.WideLaws
-- out of the text WWords
-- PRINTED BY print.sh 35421559b90ae4d0a3588c463048766b98c2df88dd9212a6774a882060cdf62d: not written by this session
-- PRINTED WORDS (module Derived/Print/Words.lean): go-wishes' parts 1 to 38 and go-gate-2's additions: AI agents of Go's test side, Mon Nov 16 2026; no person has read them. Plain theorems and definitions: no macro, no elab, no axiom.
set_option linter.unusedVariables false
set_option linter.unusedSimpArgs false
namespace Go.Proofs.YtejhnlljddjicaaDoorW.PrintWords
open Go.RowKit
def nums (k : IntKind) (xs : List Int) : List Value := xs.map fun x => .int k x
theorem ReadsInt.at_ {w : World} {k : IntKind} {A : Option Addr} {n : Nat} {xs : List Int} (h : ReadsInt w k A n xs) (i : Int) (h0 : 0 ≤ i) (h1 : i < n) : ∃ ad, A = some ad ∧ w.cell? (ad.add i.toNat) = some (.int k (rd xs i)) := by
  obtain ⟨ad, e, hc⟩ := h.2.2 (by omega)
  exact ⟨ad, e, hc _ (by omega)⟩
section
variable {P : Program} {ops : Array Oper} {rest : List Oper} {o : Oper} {a : Act} {Q : Exit → Act → World → Prop}
end
section
variable {P : Program}
end
section
variable {P : Program} {ops : Array Oper} {rest : List Oper} {o : Oper} {a : Act} {Q : Exit → Act → World → Prop}
theorem print_append_row {w0 W : World} (base : Nat) (hgd : o.guard = none) (s x : Operand) (t e : TypeId) (k : IntKind) (bytes : Nat)
    (ho : o.op = .call { callee := .builtin .append, args := #[s, x], argTypes := #[t, t] })
    (ht : P.underlying t = some (.slice e)) (hinfo : (P.info? e).map (fun i => (i.zero, i.size, i.bytes)) = some (some (.int k 0), 1, bytes)) (hb0 : 0 < bytes)
    (v : Value) (xs ys : List Int) (A : Option Addr) (m c : Nat) (hs : a.eval s = v) (hx : a.eval x = .slice A m c)
    (HO : W.ownsRow base e 1 v xs.length (nums k xs)) (HR : ReadsInt W k A m ys) (HB : Below base w0 W) (hbase : base ≤ W.heap.size) (hl : (xs.length + m) * bytes ≤ 140737488355328)
    (h : ∀ v1 w1, w1.ownsRow base e 1 v1 (xs ++ ys).length (nums k (xs ++ ys)) → Below base w0 w1 → W.grownBy w1 v.ownBlock → (v1.ownBlock = v.ownBlock ∨ ∃ b, v1.ownBlock = some b ∧ W.heap.size ≤ b) → wpList P ops Q rest (a.put o.dst v1) w1) :
    wpList P ops Q (o :: rest) a W := by
  obtain ⟨i0, hi, hzz⟩ := Option.map_eq_some_iff.1 hinfo
  simp only [Prod.mk.injEq] at hzz
  obtain ⟨hz0, hz1, hz2⟩ := hzz
  have hm : ys.length = m := HR.1
  have hlen : xs.length + m ≤ 140737488355328 := Nat.le_trans (Nat.le_mul_of_pos_right _ hb0) hl
  have hrun : ∃ v1 w1, (Builtin.append_ #[t, t] o.type #[v, .slice A m c]).run P W = .ok v1 w1 ∧ w1.ownsRow base e 1 v1 (xs ++ ys).length (nums k (xs ++ ys)) ∧ W.grownBy w1 v.ownBlock ∧ (v1.ownBlock = v.ownBlock ∨ v1.ownBlock = some W.heap.size) := by
    rcases A with _ | ad
    · have h0 : m = 0 := by
        rcases Nat.eq_zero_or_pos m with h0 | h0
        · exact h0
        · obtain ⟨ad, h, _⟩ := HR.2.2 h0
          cases h
      subst h0
      obtain rfl : ys = [] := List.eq_nil_of_length_eq_zero hm
      refine ⟨v, W, ?_, by simpa using HO, World.grownBy.refl W _, .inl rfl⟩
      rcases HO.2 with ⟨rfl, hn⟩ | ⟨g, cap, cur, rfl, _, _, hnc, _⟩
      · simp [Builtin.append_, run_underlying ht, sizeOf, typeInfo, hi, Builtin.lenOf, Builtin.firstCells]
      · simp [Builtin.append_, run_underlying ht, sizeOf, typeInfo, hi, Builtin.lenOf, Builtin.firstCells, hnc, storeCells]
    · have hcells : ∀ j u, (nums k ys)[j]? = some u → W.cell? (ad.add j) = some u := by
        intro j u hu
        have hj : j < ys.length := by
          rcases Nat.lt_or_ge j ys.length with h | h
          · exact h
          · simp [nums, List.getElem?_eq_none h] at hu
        obtain ⟨ad', h', hc⟩ := HR.2.2 (by omega)
        injection h' with h'
        subst h'
        have := hc j (by omega)
        simp [nums, List.getElem?_eq_getElem hj] at hu
        subst hu
        rw [this]
        simp [List.getD_eq_getElem?_getD, List.getElem?_eq_getElem hj]
      obtain ⟨v1, w1, hr, h2, h3, _, h5⟩ := run_append_own_at (P := P) W base t o.type e i0 (.int k 0) 1 bytes ht hi hz0 hz1 hz2 rfl (by omega) v xs.length (nums k xs) HO ad m c (nums k ys) (by simp [nums, hm]) hcells
        (by intro u hu; simp only [nums, List.mem_map] at hu; obtain ⟨q, _, rfl⟩ := hu; rfl) (by simp only [maxLen]; omega) hl hbase
      exact ⟨v1, w1, hr, by simpa [nums, hm] using h2, h3, h5⟩
  obtain ⟨v1, w1, hr, hown, hg, hat⟩ := hrun
  refine wpList_plain hgd fun K hK => ?_
  unfold Oper.wp execOp
  simp only [ho, resolve, invoke, builtin, Sem.run_bind, Sem.run_pure, Result.andThen_ok, List.map_toArray, List.map_cons, List.map_nil, hs, hx, hr]
  refine hK _ _ (h v1 w1 hown (HB.grown hg hbase (own_base HO)) hg ?_)
  rcases hat with hat | hat
  · exact .inl hat
  · exact .inr ⟨_, hat, Nat.le_refl _⟩
end
section
variable {P : Program} {ops : Array Oper} {rest : List Oper} {o : Oper} {a : Act} {Q : Exit → Act → World → Prop}
end
section
variable {P : Program} {ops : Array Oper} {o : Oper} {a : Act} {Q : Exit → Act → World → Prop} {K : Act → World → Prop}
end
section
variable {α : Type} {enc : α → Value} {d : α}
end
section
variable {α : Type} {P : Program} {ops : Array Oper} {rest : List Oper} {o : Oper} {a : Act} {Q : Exit → Act → World → Prop}
end
/-! ### 17. Rows of one element type held at once: no two share a block -/
def NeRow (v v' : Value) : Prop := ∀ k, v.ownBlock = some k → v'.ownBlock ≠ some k
/-- A row that was made since W (by a call from W on: its base is W's size) against a row of W's. -/
theorem ne_below {W w1 : World} {v1 v' : Value} {base n size n1 size1 : Nat} {e e1 : TypeId} {xs xs1 : List Value} (h1 : w1.ownsRow W.heap.size e1 size1 v1 n1 xs1) (ho : W.ownsRow base e size v' n xs) : NeRow v1 v' := by
  intro k hk hk'
  have h2 := own_base h1 k hk
  have h3 := own_lt ho k hk'
  omega
section
variable {P : Program}
end
section
variable {α : Type} {R R' : α → List Value → Prop} {e : TypeId} {size : Nat} {w w1 : World} {base : Nat} {v : Value} {ps : List α}
end
section
variable {P : Program} {ops : Array Oper} {rest : List Oper} {o : Oper} {a : Act} {Q : Exit → Act → World → Prop} {α : Type} {R : α → List Value → Prop}
end
section
variable {P : Program} {ops : Array Oper} {o : Oper} {a : Act} {Q : Exit → Act → World → Prop} {K : Act → World → Prop} {α : Type} {R : α → List Value → Prop}
end
section
variable {α : Type} {P : Program}
end
section
variable {P : Program} {ops : Array Oper} {rest : List Oper} {o : Oper} {a : Act} {Q : Exit → Act → World → Prop}
end
namespace Kd
section
variable {α : Type} {d : Kd α} {e : Nat} {w w1 : World} {base : Nat} {ok ok' : Nat → Prop} {v : Value} {xs : List α}
end
section
variable {P : Program} {ops : Array Oper} {rest : List Oper} {o : Oper} {a : Act} {Q : Exit → Act → World → Prop} {α : Type}
end
section
variable {P : Program} {ops : Array Oper} {o : Oper} {a : Act} {Q : Exit → Act → World → Prop} {Kc : Act → World → Prop} {α : Type}
end
end Kd
namespace Kd
section
variable {α : Type} {F : Kd α → Kd α} {sz : Nat} {E : List Nat} {hs : ∀ n, (upto F sz E n).sz = sz} {hE : ∀ n q, q ∈ (upto F sz E n).E → q ∈ E}
end
end Kd
namespace Kd
end Kd
namespace Kd
section
variable {α β : Type} {d : Kd α} {d' : Kd β} {e e' : Nat} {w w1 W : World} {base b b' : Nat} {ok ok' okv oku : Nat → Prop} {v u : Value} {xs : List α} {ys : List β}
/-- A new row is none of an elder one's. -/
theorem R_elder (hu : d'.R e' W b oku u ys) (h : d.R e w1 W.heap.size okv v xs) (hb : Below W.heap.size W w1) : d'.R e' w1 b (fun k => oku k ∧ some k ≠ v.ownBlock) u ys := by
  obtain ⟨inner, ho⟩ := R_own h
  exact R_mono (R_move (R_bound hu) (fun k hk => hb.block k hk.2.2.1)) (fun k hk => ⟨hk.1, fun he => by have := own_base ho k he.symm; have := hk.2.2.1; omega⟩)
end
section
variable {w W : World} {A : Option Addr} {n : Nat}
variable {α : Type} {enc : α → Value} {h1 : ∀ x, (enc x).oneCell' = true} {e base g cap : Nat} {ok : Nat → Prop} {xs : List α}
end
section
variable {P : Program} {ops : Array Oper} {rest : List Oper} {o : Oper} {a : Act} {Q : Exit → Act → World → Prop}
variable {α : Type}
end
end Kd
section
variable {P : Program}
end
section
variable {w w1 : World} {base n size : Nat} {e : TypeId} {v : Value} {xs : List Value}
end
section
variable {P : Program}
end
namespace Kd
section
variable {α : Type} {d : Kd α} {e : Nat} {w w1 W : World} {base : Nat} {ok ok' : Nat → Prop} {v : Value} {xs : List α}
end
section
variable {P : Program} {ops : Array Oper} {rest : List Oper} {o : Oper} {a : Act} {Q' : Exit → Act → World → Prop} {Kc : Act → World → Prop} {α : Type}
end
end Kd
namespace Kd
section
variable {α : Type} {d : Kd α} {e e' : Nat} {w w1 W : World} {base : Nat} {ok : Nat → Prop} {u v : Value} {xs : List α}
end
end Kd
namespace Kd
section
variable {α : Type} {d : Kd α} {e base g n cap : Nat} {ok okp : Nat → Prop} {W : World} {xs : List α}
end
end Kd
namespace Kd
section
variable {α : Type} {F : Kd α → Kd α} {sz : Nat} {E : List Nat} {hs : ∀ n, (upto F sz E n).sz = sz} {hE : ∀ n q, q ∈ (upto F sz E n).E → q ∈ E}
end
end Kd
namespace Kd
section
variable {P : Program} {ops : Array Oper} {rest : List Oper} {o : Oper} {a : Act} {Q : Exit → Act → World → Prop} {α : Type}
end
end Kd
namespace Kd
section
variable {P : Program} {ops : Array Oper} {rest : List Oper} {o : Oper} {a : Act} {Q : Exit → Act → World → Prop} {α : Type}
end
end Kd
namespace Kd
section
variable {α : Type} {k : Kd α} {w : World} {A : Option Addr} {xs : List α} {m c : Nat}
end
end Kd
section
variable {P : Program}
end
namespace Kd
section
variable {α β : Type} {d : Kd α} {d' : Kd β} {e e' base base' n : Nat} {ok ok' : Nat → Prop} {w W w1 W1 : World} {v u : Value} {xs : List α} {ys : List β} {A : Option Addr} {c : Nat}
end
section
variable {α : Type} {enc : α → Value} {h1 : ∀ x, (enc x).oneCell' = true} {w W : World} {A : Option Addr} {n g : Nat} {xs : List α}
end
end Kd
namespace Kd
section
variable {α : Type} {d : Kd α} {e base g : Nat} {ok : Nat → Prop} {w w1 : World} {v : Value} {xs : List α} {o : Obj}
end
end Kd
section
variable {P : Program} {ops : Array Oper} {rest : List Oper} {o : Oper} {a : Act} {Q : Exit → Act → World → Prop}
end
namespace Kd
section
variable {α : Type} {enc : α → Value} {h1 : ∀ x, (enc x).oneCell' = true} {e base g n cap : Nat} {ok : Nat → Prop} {W : World} {xs : List α}
end
end Kd
section
variable {P : Program} {ops : Array Oper} {rest : List Oper} {o : Oper} {a : Act} {Q : Exit → Act → World → Prop}
end
namespace Kd
section
variable {α : Type} {enc : α → Value} {h1 : ∀ x, (enc x).oneCell' = true} {e base g n cap : Nat} {ok : Nat → Prop} {W : World} {xs : List α}
end
end Kd
section
variable {P : Program} {ops : Array Oper} {rest : List Oper} {o : Oper} {a : Act} {Q : Exit → Act → World → Prop} {W : World}
end
section
variable {P : Program} {ops : Array Oper} {o : Oper} {a : Act} {Q : Exit → Act → World → Prop} {Kc : Act → World → Prop}
namespace Kd
variable {α : Type}
end Kd
end
section
variable {P : Program} {tmps : Array Value} {w : World}
end
namespace Kd
section
variable {P : Program} {α : Type}
end
section
variable {P : Program} {ops : Array Oper} {rest : List Oper} {o : Oper} {a : Act} {Q : Exit → Act → World → Prop} {Kc : Act → World → Prop} {α : Type}
end
end Kd
end Go.Proofs.YtejhnlljddjicaaDoorW.PrintWords
-- out of the text PEmx10
namespace Go.Proofs.YtejhnlljddjicaaDoor.PEm
open Go.RowKit Go.Proofs.YtejhnlljddjicaaDoorW.PrintWords Go.Proofs.YtejhnlljddjicaaDoorW.PrintLast Go.Proofs.YtejhnlljddjicaaDoorW.PrintMore
attribute [local go_sem] max2_int min2_int max_two min_two max_three min_three max_four min_four   -- for this text's walks alone
set_option linter.unusedVariables false
set_option linter.unusedSimpArgs false
set_option maxHeartbeats 8000000 in
set_option maxRecDepth 100000 in
theorem mortiseref01_extended.calls (k : Nat) (a0 : Int) (a1 : Int) (a2 : Bool) (r : Int) (w : World) (h : mortiseref01_extended.f k a0 a1 a2 = some r) :
    Calls Tryd.prog 87 #[.int .u32 a0, .int .i64 a1, .bool a2] w fun e w' => e = .returned (.int .u32 r) ∧ Drawn0 w w' := by
  have H : (if a1 = 1 then (mortiseref01_extended.j0 k a0 a1 a2 false) else (mortiseref01_extended.j0 k a0 a1 a2 (a1 != 2))) = some r := h
  clear h
  have HC4 := Aside0.mk H
  clear H
  go_enter Tryd.func87, Tryd.ntmps87
  go_upto_region 1 with (fail)
  go_cut [14] (fun v14 wc => ∃ (kq : Nat) (x14_73 : Bool), v14 = .bool x14_73 ∧ Aside0 (mortiseref01_extended.j0 kq a0 a1 a2 x14_73 = some r) ∧ Aside0 (kq ≤ k) ∧ Drawn0 w wc)
  case first =>
    have H := HC4.out
    clear HC4
    by_cases c5 : a1 = 1
    · rw [if_pos c5] at H
      have c5b0 : (a1 == 1) = true := beq_iff_eq.mpr c5
      have c5b1 : (a1 != 1) = false := bne_eq_false_iff_eq.mpr c5
      clear c5
      (first | rw [c5b0] | (simp only [i64_w, i32_w]; rw [c5b0]) | skip)
      have H' := Aside0.mk H
      clear H
      go_wp2
      go_meet
      case rel => exact ⟨_, (false), (by first | rfl | (simp; done) | (simp [*]; done)), H', ⟨by first | omega | exact Nat.le_refl _⟩, by repeat (first | exact Drawn0.refl _ | apply Drawn0.step)⟩
    · rw [if_neg c5] at H
      have c5b0 : (a1 == 1) = false := beq_eq_false_iff_ne.mpr c5
      have c5b1 : (a1 != 1) = true := bne_iff_ne.mpr c5
      (first | rw [c5b0] | (simp only [i64_w, i32_w]; rw [c5b0]) | skip)
      have H' := Aside0.mk H
      clear H
      go_wp2
      go_meet
      case rel => exact ⟨_, ((a1 != 2)), (by first | rfl | (simp; done) | (simp [*]; done)), H', ⟨by first | omega | exact Nat.le_refl _⟩, by repeat (first | exact Drawn0.refl _ | apply Drawn0.step)⟩
  case rest =>
    clear HC4
    try clear p2
    try clear c5
    try clear c5b0
    try clear c5b1
    obtain ⟨kq, x14_73, rfl, HA, HJ73, ⟨mc73, rfl⟩⟩ := hcut
    cases kq with
    | zero => exact absurd HA.out (by simp [mortiseref01_extended.j0])
    | succ kj73 =>
      have H := HA.out
      clear HA
      simp only [mortiseref01_extended.j0] at H
      by_cases c6 : x14_73 = true
      · subst c6
        have H1 : (some a0) = some r := by rw [if_pos rfl] at H; exact H
        clear H
        have H := H1
        clear H1
        obtain rfl := Option.some.inj H
        go_wp2
        go_ret
        exact ⟨by first | rfl | (simp; done) | (simp [*]; done), by repeat (first | exact Drawn0.refl _ | apply Drawn0.step)⟩
      · replace c6 := Bool.eq_false_iff.mpr c6
        subst c6
        have H1 : (if 0 ≤ (IntKind.u64.wrap (wrap64 (8 * a1))) then (if a2 = true then (if 0 ≤ (IntKind.u64.wrap ((IntKind.u64.wrap (wrap64 (8 * a1))) - 1)) then (if (shr .u32 (Go.bits .and .u32 a0 (((shl .u32 1 (IntKind.u64.wrap (wrap64 (8 * a1)))) - 1) % 4294967296)) (IntKind.u64.wrap ((IntKind.u64.wrap (wrap64 (8 * a1))) - 1))) = 1 then (some (Go.bits .or .u32 (Go.bits .and .u32 a0 (((shl .u32 1 (IntKind.u64.wrap (wrap64 (8 * a1)))) - 1) % 4294967296)) (shl .u32 4294967295 (IntKind.u64.wrap (wrap64 (8 * a1)))))) else (some (Go.bits .and .u32 a0 (((shl .u32 1 (IntKind.u64.wrap (wrap64 (8 * a1)))) - 1) % 4294967296)))) else (none)) else (some (Go.bits .and .u32 a0 (((shl .u32 1 (IntKind.u64.wrap (wrap64 (8 * a1)))) - 1) % 4294967296)))) else (none)) = some r := by rw [if_neg (show ¬ (false = true) by decide)] at H; exact H
        clear H
        have H := H1
        clear H1
        obtain ⟨ji7, hji7⟩ : ∃ j_ : Int, (IntKind.u64.wrap (wrap64 (8 * a1))) = j_ := ⟨_, rfl⟩
        replace H : (if 0 ≤ (ji7) then (if a2 = true then (if 0 ≤ (IntKind.u64.wrap ((ji7) - 1)) then (if (shr .u32 (Go.bits .and .u32 a0 (((shl .u32 1 (ji7)) - 1) % 4294967296)) (IntKind.u64.wrap ((ji7) - 1))) = 1 then (some (Go.bits .or .u32 (Go.bits .and .u32 a0 (((shl .u32 1 (ji7)) - 1) % 4294967296)) (shl .u32 4294967295 (ji7)))) else (some (Go.bits .and .u32 a0 (((shl .u32 1 (ji7)) - 1) % 4294967296)))) else (none)) else (some (Go.bits .and .u32 a0 (((shl .u32 1 (ji7)) - 1) % 4294967296)))) else (none)) = some r := by first | (rw [hji7] at H; exact H) | (simp only [hji7] at H ⊢; exact H)
        by_cases c8 : 0 ≤ (ji7)
        · rw [if_pos c8] at H
          have c8b0 := eq_true c8
          have c8b1 : decide (0 ≤ (ji7)) = true := decide_eq_true c8
          clear c8
          obtain ⟨ji9, hji9⟩ : ∃ j_ : Int, (shl .u32 1 (ji7)) = j_ := ⟨_, rfl⟩
          replace H : (if a2 = true then (if 0 ≤ (IntKind.u64.wrap ((ji7) - 1)) then (if (shr .u32 (Go.bits .and .u32 a0 (((ji9) - 1) % 4294967296)) (IntKind.u64.wrap ((ji7) - 1))) = 1 then (some (Go.bits .or .u32 (Go.bits .and .u32 a0 (((ji9) - 1) % 4294967296)) (shl .u32 4294967295 (ji7)))) else (some (Go.bits .and .u32 a0 (((ji9) - 1) % 4294967296)))) else (none)) else (some (Go.bits .and .u32 a0 (((ji9) - 1) % 4294967296)))) = some r := by first | (rw [hji9] at H; exact H) | (simp only [hji9] at H ⊢; exact H)
          have hji9_ : (IntKind.u32.wrap (1 * 2 ^ min (ji7).toNat 32)) = ji9 := hji9
          have hji9z : (ji7) ≤ 32 → (IntKind.u32.wrap (1 * 2 ^ (ji7).toNat)) = ji9 := shl_small hji9
          have hji9u : (IntKind.u32.wrap (2 ^ min (ji7).toNat 32)) = ji9 := by have h_ := hji9_; rw [Int.one_mul] at h_; exact h_
          have hji9v : (ji7) ≤ 32 → (IntKind.u32.wrap (2 ^ (ji7).toNat)) = ji9 := fun hle_ => by have h_ := hji9z hle_; rw [Int.one_mul] at h_; exact h_
          by_cases c10 : a2 = true
          · subst c10
            have H1 : (if 0 ≤ (IntKind.u64.wrap ((ji7) - 1)) then (if (shr .u32 (Go.bits .and .u32 a0 (((ji9) - 1) % 4294967296)) (IntKind.u64.wrap ((ji7) - 1))) = 1 then (some (Go.bits .or .u32 (Go.bits .and .u32 a0 (((ji9) - 1) % 4294967296)) (shl .u32 4294967295 (ji7)))) else (some (Go.bits .and .u32 a0 (((ji9) - 1) % 4294967296)))) else (none)) = some r := by rw [if_pos rfl] at H; exact H
            clear H
            have H := H1
            clear H1
            obtain ⟨ji11, hji11⟩ : ∃ j_ : Int, (IntKind.u64.wrap ((ji7) - 1)) = j_ := ⟨_, rfl⟩
            replace H : (if 0 ≤ (ji11) then (if (shr .u32 (Go.bits .and .u32 a0 (((ji9) - 1) % 4294967296)) (ji11)) = 1 then (some (Go.bits .or .u32 (Go.bits .and .u32 a0 (((ji9) - 1) % 4294967296)) (shl .u32 4294967295 (ji7)))) else (some (Go.bits .and .u32 a0 (((ji9) - 1) % 4294967296)))) else (none)) = some r := by first | (rw [hji11] at H; exact H) | (simp only [hji11] at H ⊢; exact H)
            by_cases c12 : 0 ≤ (ji11)
            · rw [if_pos c12] at H
              have c12b0 := eq_true c12
              have c12b1 : decide (0 ≤ (ji11)) = true := decide_eq_true c12
              clear c12
              obtain ⟨ji13, hji13⟩ : ∃ j_ : Int, (shr .u32 (Go.bits .and .u32 a0 (((ji9) - 1) % 4294967296)) (ji11)) = j_ := ⟨_, rfl⟩
              replace H : (if (ji13) = 1 then (some (Go.bits .or .u32 (Go.bits .and .u32 a0 (((ji9) - 1) % 4294967296)) (shl .u32 4294967295 (ji7)))) else (some (Go.bits .and .u32 a0 (((ji9) - 1) % 4294967296)))) = some r := by first | (rw [hji13] at H; exact H) | (simp only [hji13] at H ⊢; exact H)
              have hji13_ : ((Go.bits .and .u32 a0 (((ji9) - 1) % 4294967296)) / 2 ^ min (ji11).toNat 32) = ji13 := hji13
              have hji13z : (ji11) ≤ 32 → ((Go.bits .and .u32 a0 (((ji9) - 1) % 4294967296)) / 2 ^ (ji11).toNat) = ji13 := shr_small hji13
              by_cases c14 : (ji13) = 1
              · rw [if_pos c14] at H
                have c14b0 : ((ji13) == 1) = true := beq_iff_eq.mpr c14
                have c14b1 : ((ji13) != 1) = false := bne_eq_false_iff_eq.mpr c14
                clear c14
                have c15b0 := eq_true (of_decide_eq_true (by first | (with_reducible assumption) | assumption) : 0 ≤ (ji7))
                obtain ⟨ji16, hji16⟩ : ∃ j_ : Int, (shl .u32 4294967295 (ji7)) = j_ := ⟨_, rfl⟩
                replace H : (some (Go.bits .or .u32 (Go.bits .and .u32 a0 (((ji9) - 1) % 4294967296)) (ji16))) = some r := by first | (rw [hji16] at H; exact H) | (simp only [hji16] at H ⊢; exact H)
                have hji16_ : (IntKind.u32.wrap (4294967295 * 2 ^ min (ji7).toNat 32)) = ji16 := hji16
                have hji16z : (ji7) ≤ 32 → (IntKind.u32.wrap (4294967295 * 2 ^ (ji7).toNat)) = ji16 := shl_small hji16
                obtain rfl := Option.some.inj H
                go_wp2
                go_ret
                exact ⟨by first | rfl | (simp; done) | (simp only [← hji7, ← hji9, ← hji11, ← hji13, ← hji16] <;> (first | rfl | (simp; done) | (simp [shl, IntKind.wrap, IntKind.bits, IntKind.signed]; done))) | (simp [*]; done), by repeat (first | exact Drawn0.refl _ | apply Drawn0.step)⟩
              · rw [if_neg c14] at H
                have c14b0 : ((ji13) == 1) = false := beq_eq_false_iff_ne.mpr c14
                have c14b1 : ((ji13) != 1) = true := bne_iff_ne.mpr c14
                obtain rfl := Option.some.inj H
                go_wp2
                go_ret
                exact ⟨by first | rfl | (simp; done) | (simp only [← hji7, ← hji9, ← hji11, ← hji13] <;> (first | rfl | (simp; done) | (simp [shl, IntKind.wrap, IntKind.bits, IntKind.signed]; done))) | (simp [*]; done), by repeat (first | exact Drawn0.refl _ | apply Drawn0.step)⟩
            · rw [if_neg c12] at H
              exact absurd H (by simp)
          · replace c10 := Bool.eq_false_iff.mpr c10
            subst c10
            have H1 : (some (Go.bits .and .u32 a0 (((ji9) - 1) % 4294967296))) = some r := by rw [if_neg (show ¬ (false = true) by decide)] at H; exact H
            clear H
            have H := H1
            clear H1
            obtain rfl := Option.some.inj H
            go_wp2
            go_ret
            exact ⟨by first | rfl | (simp; done) | (simp only [← hji7, ← hji9] <;> (first | rfl | (simp; done) | (simp [shl, IntKind.wrap, IntKind.bits, IntKind.signed]; done))) | (simp [*]; done), by repeat (first | exact Drawn0.refl _ | apply Drawn0.step)⟩
        · rw [if_neg c8] at H
          exact absurd H (by simp)
-- NOT PRINTED: function 54 (mortiseref21_M_read)
-- NOT PRINTED: function 74 (mortiseref21_M_setByte)
-- NOT PRINTED: function 55 (mortiseref21_M_write)
-- NOT PRINTED: function 75 (mortiseref21_M_jump)
-- NOT PRINTED: function 56 (mortiseref21_M_other)
-- NOT PRINTED: function 33 (mortiseref21_M_do)
-- NOT PRINTED: function 22 (mortiseref21_M_Step)
-- NOT PRINTED: function 23 (mortiseref21_M_Outcome)
-- NOT PRINTED: function 9 (mortiseref21_Run)
end Go.Proofs.YtejhnlljddjicaaDoor.PEm
-- out of the text E41
namespace Go.Proofs.YtejhnlljddjicaaDoor.Ma
open Go.RowKit Go.Proofs.YtejhnlljddjicaaDoor.PEm Go.Proofs.YtejhnlljddjicaaDoorW.PrintWords Go.Proofs.YtejhnlljddjicaaDoorW.PrintLast Go.Proofs.YtejhnlljddjicaaDoorW.PrintMore Go.Proofs.YtejhnlljddjicaaDoor.La Go.Proofs.YtejhnlljddjicaaDoor.Ea
set_option linter.unusedVariables false
set_option linter.unusedSimpArgs false
variable {w w' : World} {c pg : Nat} {ps ps' : Pages} {S S' : Cpu} {inp out inp' out' : List Int}
set_option maxHeartbeats 4000000 in
set_option maxRecDepth 100000 in
theorem run_no (w : World) (A : Option Addr) (k : Nat) (bs : List Int) (code entry : Int) (iv : Value) (fuel : Int) (hC : Kd.C (Kd.int .u8) w A bs.length bs) (hk : bs.length ≤ k) (ho : ¬ okImg bs.length code entry) :
    Calls Tryd.prog 8 #[.agg #[.slice A bs.length k, .int .i64 code, .int .i64 entry], iv, .int .i64 fuel] w fun e w' => e = .returned (.tuple #[.agg #[.int .i64 0, .int .i64 0, .slice none 0 0, .int .i64 0], .int .i64 2]) ∧ Below w.heap.size w w' := by
  have HO := Aside0.mk ho
  clear ho
  have B1 := Aside0.mk (show Below w.heap.size w ((w.alloc (.cells #[.slice A bs.length k, .int .i64 code, .int .i64 entry] 24)).alloc (.cells #[.int .i64 0, .int .i64 0, .slice none 0 0, .int .i64 0] 27)) from below_alloc (below_alloc (Below.refl _ _) _) _)
  have R3 := Aside0.mk (show ((w.alloc (.cells #[.slice A bs.length k, .int .i64 code, .int .i64 entry] 24)).alloc (.cells #[.int .i64 0, .int .i64 0, .slice none 0 0, .int .i64 0] 27)).heap[w.heap.size]? = some (.cells #[.slice A bs.length k, .int .i64 code, .int .i64 entry] 24 (0, 0)) from blk_alloc (heap_at _ _ _ rfl) _)
  have R6 := Aside0.mk (show ((w.alloc (.cells #[.slice A bs.length k, .int .i64 code, .int .i64 entry] 24)).alloc (.cells #[.int .i64 0, .int .i64 0, .slice none 0 0, .int .i64 0] 27)).heap[w.heap.size + 1]? = some (.cells #[.int .i64 0, .int .i64 0, .slice none 0 0, .int .i64 0] 27 (0, 0)) from heap_at _ _ _ (by simp))
  have HC := Aside0.mk hC
  have HK := Aside0.mk hk
  have G6 := Aside0.mk (show w.heap.size ≤ w.heap.size + 1 by omega)
  clear hC hk
  go_enter Tryd.func8, Tryd.ntmps8
  go_upto_region 1 with (fail)
  generalize (w.alloc (.cells #[.slice A bs.length k, .int .i64 code, .int .i64 entry] 24)).alloc (.cells #[.int .i64 0, .int .i64 0, .slice none 0 0, .int .i64 0] 27) = W1 at B1 R3 R6 ⊢
  generalize hg6 : w.heap.size + 1 = g6 at R6 G6 ⊢
  generalize hg3 : w.heap.size = g3 at R3 ⊢
  clear hg6
  have c0 := (blk_cell R3.out 0).trans rfl
  have c1 := (blk_cell R3.out 1).trans rfl
  have c2 := (blk_cell R3.out 2).trans rfl
  go_wp2_with (first | (go_at_call 15; refine (new_no _ A k bs code entry iv (Kd.C_below HC.out B1.out) HK.out HO.out).mono ?_; rintro e Y ⟨rfl, hb⟩; have BB := Aside0.mk (pm_chain B1.out hb); have R7 := Aside0.mk (blk_below R6.out hb); clear hb) | (refine wpList_store_row rfl 27 _ _ rfl g6 _ rfl rfl 27 _ (R7.out) (by as_aux_lemma => kernel_rfl) (by as_aux_lemma => kernel_rfl) (by as_aux_lemma => kernel_rfl) ?_))
  (try simp only [Exit.inBlock, Exit.then])
  refine bodyPost_ret (results_cell2 (p := 6) (q := 7) (ty := 27) rfl _ _ _ _ ⟨g6, 0, none⟩ _ _ (by rfl) (run_loadVar_row _ g6 27 27 _ (0, 0) _ (setRow_heap _ _ _ _ _ _ (R7.out)) Tryd.underlying27 (by rfl) (by kernel_rfl)) (by rfl)) rfl ?_
  exact ⟨rfl, below_setRow BB.out (by have := G6.out; omega) _⟩
set_option maxHeartbeats 4000000 in
set_option maxRecDepth 100000 in
theorem run_fuel (w : World) (A : Option Addr) (k : Nat) (bs : List Int) (code entry : Int) (Ai : Option Addr) (ki : Nat) (inp : List Int) (fuel : Int) (hC : Kd.C (Kd.int .u8) w A bs.length bs) (hk : bs.length ≤ k) (ho : okImg bs.length code entry)
    (hx : ∀ b ∈ bs, 0 ≤ b ∧ b < 256) (hCi : Kd.C (Kd.int .u8) w Ai inp.length inp) (hi : inp.length ≤ 140737488355328) (hf : fuel < 1 ∨ fuel > 4194304) :
    Calls Tryd.prog 8 #[.agg #[.slice A bs.length k, .int .i64 code, .int .i64 entry], .slice Ai inp.length ki, .int .i64 fuel] w fun e w' => e = .returned (.tuple #[.agg #[.int .i64 0, .int .i64 0, .slice none 0 0, .int .i64 0], .int .i64 2]) ∧ Below w.heap.size w w' := by
  have HO := Aside0.mk ho
  have HX := Aside0.mk hx
  have HCI := Aside0.mk hCi
  have HI := Aside0.mk hi
  by_cases h1 : fuel < 1
  · clear ho hx hCi hi hf
    have B1 := Aside0.mk (show Below w.heap.size w ((w.alloc (.cells #[.slice A bs.length k, .int .i64 code, .int .i64 entry] 24)).alloc (.cells #[.int .i64 0, .int .i64 0, .slice none 0 0, .int .i64 0] 27)) from below_alloc (below_alloc (Below.refl _ _) _) _)
    have R3 := Aside0.mk (show ((w.alloc (.cells #[.slice A bs.length k, .int .i64 code, .int .i64 entry] 24)).alloc (.cells #[.int .i64 0, .int .i64 0, .slice none 0 0, .int .i64 0] 27)).heap[w.heap.size]? = some (.cells #[.slice A bs.length k, .int .i64 code, .int .i64 entry] 24 (0, 0)) from blk_alloc (heap_at _ _ _ rfl) _)
    have R6 := Aside0.mk (show ((w.alloc (.cells #[.slice A bs.length k, .int .i64 code, .int .i64 entry] 24)).alloc (.cells #[.int .i64 0, .int .i64 0, .slice none 0 0, .int .i64 0] 27)).heap[w.heap.size + 1]? = some (.cells #[.int .i64 0, .int .i64 0, .slice none 0 0, .int .i64 0] 27 (0, 0)) from heap_at _ _ _ (by simp))
    have HC := Aside0.mk hC
    have HK := Aside0.mk hk
    have G6 := Aside0.mk (show w.heap.size ≤ w.heap.size + 1 by omega)
    clear hC hk
    go_enter Tryd.func8, Tryd.ntmps8
    go_upto_region 1 with (fail)
    generalize (w.alloc (.cells #[.slice A bs.length k, .int .i64 code, .int .i64 entry] 24)).alloc (.cells #[.int .i64 0, .int .i64 0, .slice none 0 0, .int .i64 0] 27) = W1 at B1 R3 R6 ⊢
    generalize hg6 : w.heap.size + 1 = g6 at R6 G6 ⊢
    generalize hg3 : w.heap.size = g3 at R3 ⊢
    clear hg6
    have c0 := (blk_cell R3.out 0).trans rfl
    have c1 := (blk_cell R3.out 1).trans rfl
    have c2 := (blk_cell R3.out 2).trans rfl
    go_wp2_with (first | (go_at_call 15; refine (new_yes _ A k bs code entry Ai ki inp (Kd.C_below HC.out B1.out) HK.out HO.out HX.out (Kd.C_below HCI.out B1.out) HI.out).mono ?_; rintro e Y ⟨c, pg, ps, S, rfl, hem, hb, hfo, hS, hby⟩; have BB := Aside0.mk (pm_chain B1.out hb); have R7 := Aside0.mk (blk_below R6.out hb); clear hem hb hfo hS hby) | (refine wpList_store_row rfl 27 _ _ rfl g6 _ rfl rfl 27 _ (R7.out) (by as_aux_lemma => kernel_rfl) (by as_aux_lemma => kernel_rfl) (by as_aux_lemma => kernel_rfl) ?_))
    (try simp only [Exit.inBlock, Exit.then])
    refine bodyPost_ret (results_cell2 (p := 6) (q := 7) (ty := 27) rfl _ _ _ _ ⟨g6, 0, none⟩ _ _ (by rfl) (run_loadVar_row _ g6 27 27 _ (0, 0) _ (setRow_heap _ _ _ _ _ _ (R7.out)) Tryd.underlying27 (by rfl) (by kernel_rfl)) (by rfl)) rfl ?_
    exact ⟨rfl, below_setRow BB.out (by have := G6.out; omega) _⟩
  · have h2 : fuel > 4194304 := by omega
    clear ho hx hCi hi hf
    have B1 := Aside0.mk (show Below w.heap.size w ((w.alloc (.cells #[.slice A bs.length k, .int .i64 code, .int .i64 entry] 24)).alloc (.cells #[.int .i64 0, .int .i64 0, .slice none 0 0, .int .i64 0] 27)) from below_alloc (below_alloc (Below.refl _ _) _) _)
    have R3 := Aside0.mk (show ((w.alloc (.cells #[.slice A bs.length k, .int .i64 code, .int .i64 entry] 24)).alloc (.cells #[.int .i64 0, .int .i64 0, .slice none 0 0, .int .i64 0] 27)).heap[w.heap.size]? = some (.cells #[.slice A bs.length k, .int .i64 code, .int .i64 entry] 24 (0, 0)) from blk_alloc (heap_at _ _ _ rfl) _)
    have R6 := Aside0.mk (show ((w.alloc (.cells #[.slice A bs.length k, .int .i64 code, .int .i64 entry] 24)).alloc (.cells #[.int .i64 0, .int .i64 0, .slice none 0 0, .int .i64 0] 27)).heap[w.heap.size + 1]? = some (.cells #[.int .i64 0, .int .i64 0, .slice none 0 0, .int .i64 0] 27 (0, 0)) from heap_at _ _ _ (by simp))
    have HC := Aside0.mk hC
    have HK := Aside0.mk hk
    have G6 := Aside0.mk (show w.heap.size ≤ w.heap.size + 1 by omega)
    clear hC hk
    go_enter Tryd.func8, Tryd.ntmps8
    go_upto_region 1 with (fail)
    generalize (w.alloc (.cells #[.slice A bs.length k, .int .i64 code, .int .i64 entry] 24)).alloc (.cells #[.int .i64 0, .int .i64 0, .slice none 0 0, .int .i64 0] 27) = W1 at B1 R3 R6 ⊢
    generalize hg6 : w.heap.size + 1 = g6 at R6 G6 ⊢
    generalize hg3 : w.heap.size = g3 at R3 ⊢
    clear hg6
    have c0 := (blk_cell R3.out 0).trans rfl
    have c1 := (blk_cell R3.out 1).trans rfl
    have c2 := (blk_cell R3.out 2).trans rfl
    go_wp2_with (first | (go_at_call 15; refine (new_yes _ A k bs code entry Ai ki inp (Kd.C_below HC.out B1.out) HK.out HO.out HX.out (Kd.C_below HCI.out B1.out) HI.out).mono ?_; rintro e Y ⟨c, pg, ps, S, rfl, hem, hb, hfo, hS, hby⟩; have BB := Aside0.mk (pm_chain B1.out hb); have R7 := Aside0.mk (blk_below R6.out hb); clear hem hb hfo hS hby) | (refine wpList_store_row rfl 27 _ _ rfl g6 _ rfl rfl 27 _ (R7.out) (by as_aux_lemma => kernel_rfl) (by as_aux_lemma => kernel_rfl) (by as_aux_lemma => kernel_rfl) ?_))
    (try simp only [Exit.inBlock, Exit.then])
    refine bodyPost_ret (results_cell2 (p := 6) (q := 7) (ty := 27) rfl _ _ _ _ ⟨g6, 0, none⟩ _ _ (by rfl) (run_loadVar_row _ g6 27 27 _ (0, 0) _ (setRow_heap _ _ _ _ _ _ (R7.out)) Tryd.underlying27 (by rfl) (by kernel_rfl)) (by rfl)) rfl ?_
    exact ⟨rfl, below_setRow BB.out (by have := G6.out; omega) _⟩
end Go.Proofs.YtejhnlljddjicaaDoor.Ma
-- out of the text E47
namespace Go.Proofs.YtejhnlljddjicaaDoor.Ma
open Go.RowKit Go.Proofs.YtejhnlljddjicaaDoor.PEm Go.Proofs.YtejhnlljddjicaaDoorW.PrintWords Go.Proofs.YtejhnlljddjicaaDoorW.PrintLast Go.Proofs.YtejhnlljddjicaaDoorW.PrintMore Go.Proofs.YtejhnlljddjicaaDoor.La Go.Proofs.YtejhnlljddjicaaDoor.Ea
set_option linter.unusedVariables false
set_option linter.unusedSimpArgs false
variable {w w' : World} {c pg : Nat} {ps ps' : Pages} {S S' : Cpu} {inp out inp' out' : List Int}
theorem acc_low (m : Nat → Int) (S : Cpu) (x : I5) (i : Nat) (hi : (i : Int) < 4096 + S.code) : accMM m S x i = m i := by
  unfold accMM
  split
  · rfl
  · next hl =>
    split
    · next he =>
      have h2 : ¬ (addrF S x < 4096 + S.code) := by
        intro hlt
        unfold accE mayF at he
        rw [show (!accL x.op) = true by simp [hl]] at he
        split at he
        · omega
        · split at he
          · omega
          · next h3 => exact h3 (.inr (.inr ⟨rfl, hlt⟩))
      unfold putF
      rw [if_neg (by omega)]
    · rfl
theorem do_low (m : Nat → Int) (S : Cpu) (x : I5) (inp out : List Int) (i : Nat) (hi : (i : Int) < 4096 + S.code) : (doM m S x inp out).m i = m i := by
  unfold doM
  by_cases c : 1 ≤ x.op ∧ x.op ≤ 19
  · rw [if_pos c]; all_goals (first | rfl | exact acc_low m S x i hi | (split; rfl; rfl) | (cases inp; rfl; rfl))
  rw [if_neg c]; clear c
  by_cases c : 33 ≤ x.op ∧ x.op ≤ 51
  · rw [if_pos c]; all_goals (first | rfl | exact acc_low m S x i hi | (split; rfl; rfl) | (cases inp; rfl; rfl))
  rw [if_neg c]; clear c
  by_cases c : (80 ≤ x.op ∧ x.op ≤ 84) ∨ (88 ≤ x.op ∧ x.op ≤ 90)
  · rw [if_pos c]; all_goals (first | rfl | exact acc_low m S x i hi | (split; rfl; rfl) | (cases inp; rfl; rfl))
  rw [if_neg c]; clear c
  by_cases c : x.op = 64
  · rw [if_pos c]; all_goals (first | rfl | exact acc_low m S x i hi | (split; rfl; rfl) | (cases inp; rfl; rfl))
  rw [if_neg c]; clear c
  by_cases c : x.op = 65
  · rw [if_pos c]; all_goals (first | rfl | exact acc_low m S x i hi | (split; rfl; rfl) | (cases inp; rfl; rfl))
  rw [if_neg c]; clear c
  by_cases c : x.op = 96
  · rw [if_pos c]; all_goals (first | rfl | exact acc_low m S x i hi | (split; rfl; rfl) | (cases inp; rfl; rfl))
  rw [if_neg c]; clear c
  by_cases c : x.op = 97
  · rw [if_pos c]; all_goals (first | rfl | exact acc_low m S x i hi | (split; rfl; rfl) | (cases inp; rfl; rfl))
  rw [if_neg c]; clear c
  by_cases c : x.op = 98
  · rw [if_pos c]; all_goals (first | rfl | exact acc_low m S x i hi | (split; rfl; rfl) | (cases inp; rfl; rfl))
  rw [if_neg c]; clear c
  by_cases c : x.op = 99
  · rw [if_pos c]; all_goals (first | rfl | exact acc_low m S x i hi | (split; rfl; rfl) | (cases inp; rfl; rfl))
  rw [if_neg c]; clear c
  by_cases c : x.op = 100
  · rw [if_pos c]; all_goals (first | rfl | exact acc_low m S x i hi | (split; rfl; rfl) | (cases inp; rfl; rfl))
  rw [if_neg c]; clear c
  by_cases c : x.op = 104
  · rw [if_pos c]; all_goals (first | rfl | exact acc_low m S x i hi | (split; rfl; rfl) | (cases inp; rfl; rfl))
  rw [if_neg c]; clear c
  by_cases c : x.op = 105
  · rw [if_pos c]; all_goals (first | rfl | exact acc_low m S x i hi | (split; rfl; rfl) | (cases inp; rfl; rfl))
  rw [if_neg c]; clear c
  by_cases c : x.op = 112
  · rw [if_pos c]; all_goals (first | rfl | exact acc_low m S x i hi | (split; rfl; rfl) | (cases inp; rfl; rfl))
  rw [if_neg c]; clear c
  by_cases c : x.op = 113
  · rw [if_pos c]; all_goals (first | rfl | exact acc_low m S x i hi | (split; rfl; rfl) | (cases inp; rfl; rfl))
  rw [if_neg c]
theorem step_low (m : Nat → Int) (S : Cpu) (inp out : List Int) (i : Nat) (hi : (i : Int) < 4096 + S.code) : (stepM m S inp out).m i = m i := by
  unfold stepM
  split
  · rfl
  · cases fetchM m S.code S.pc with
    | none => rfl
    | some x =>
      show (endM _).m i = _
      have e : ∀ r : Ran, (endM r).m = r.m := by intro r; unfold endM; split <;> rfl
      rw [e]
      exact do_low m _ x inp out i hi
theorem run_next (n : Nat) (r : Ran) (h : r.S.ended = 0) : runM (n + 1) r = runM n (stepM r.m r.S r.inp r.out) := by
  show (if r.S.ended ≠ 0 then r else _) = _
  rw [if_neg (by simp [h])]
theorem run_add : ∀ (n k : Nat) (r : Ran), runM (n + k) r = runM k (runM n r)
  | 0, k, r => by rw [Nat.zero_add]; rfl
  | n + 1, k, r => by
    by_cases h : r.S.ended = 0
    · rw [show n + 1 + k = (n + k) + 1 by omega, run_next _ _ h, run_next _ _ h]
      exact run_add n k _
    · rw [run_still _ _ h, run_still _ _ h, run_still _ _ h]
theorem run_grows : ∀ (n : Nat) (r : Ran), ∃ t, (runM n r).out = r.out ++ t
  | 0, r => ⟨[], by simp [runM]⟩
  | n + 1, r => by
    by_cases h : r.S.ended = 0
    · rw [run_next _ _ h]
      obtain ⟨t, e⟩ := run_grows n (stepM r.m r.S r.inp r.out)
      rcases (step_keeps r.m r.S r.inp r.out h).2.2.1 with k | ⟨v, k⟩
      · exact ⟨t, by rw [e, k]⟩
      · exact ⟨v :: t, by rw [e, k]; simp⟩
    · rw [run_still _ _ h]; exact ⟨[], by simp⟩
theorem run_counts : ∀ (n : Nat) (r : Ran), (runM n r).S.steps ≤ r.S.steps + n ∧ r.S.steps ≤ (runM n r).S.steps ∧ ((runM n r).out.length : Int) - r.out.length ≤ (runM n r).S.steps - r.S.steps ∧ (0 < n → r.S.ended = 0 → r.S.steps + 1 ≤ (runM n r).S.steps)
  | 0, r => ⟨by simp [runM], by simp [runM], by simp [runM], fun h => absurd h (by omega)⟩
  | n + 1, r => by
    by_cases h : r.S.ended = 0
    · rw [run_next _ _ h]
      obtain ⟨a1, a2, a3, _⟩ := run_counts n (stepM r.m r.S r.inp r.out)
      obtain ⟨k1, _, k3, _⟩ := step_keeps r.m r.S r.inp r.out h
      have hl : ((stepM r.m r.S r.inp r.out).out.length : Int) ≤ r.out.length + 1 := by
        rcases k3 with k | ⟨v, k⟩ <;> rw [k] <;> first | omega | (rw [List.length_append, List.length_singleton]; omega)
      refine ⟨by omega, by omega, by omega, fun _ _ => by omega⟩
    · rw [run_still _ _ h]
      exact ⟨by omega, by omega, by omega, fun _ h' => absurd h' h⟩
end Go.Proofs.YtejhnlljddjicaaDoor.Ma
-- out of the text E48
namespace Go.Proofs.YtejhnlljddjicaaDoor.Ma
open Go.RowKit Go.Proofs.YtejhnlljddjicaaDoor.PEm Go.Proofs.YtejhnlljddjicaaDoorW.PrintWords Go.Proofs.YtejhnlljddjicaaDoorW.PrintLast Go.Proofs.YtejhnlljddjicaaDoorW.PrintMore Go.Proofs.YtejhnlljddjicaaDoor.La Go.Proofs.YtejhnlljddjicaaDoor.Ea
set_option linter.unusedVariables false
set_option linter.unusedSimpArgs false
variable {w w' : World} {c pg : Nat} {ps ps' : Pages} {S S' : Cpu} {inp out inp' out' : List Int}
/-- A run that is refused. -/
def Refused (w : World) (img iv fv : Value) : Prop := Calls Tryd.prog 8 #[img, iv, fv] w fun e w' => e = .returned (.tuple #[.agg #[.int .i64 0, .int .i64 0, .slice none 0 0, .int .i64 0], .int .i64 2]) ∧ Below w.heap.size w w'
set_option maxHeartbeats 4000000 in
set_option maxRecDepth 100000 in
theorem on_no (w : World) (hh : Held w) (A : Option Addr) (k : Nat) (bs : List Int) (code entry : Int) (iv fv : Value) (hC : Kd.C (Kd.int .u8) w A bs.length bs) (hk : bs.length ≤ k) (hr : ∀ W, Below w.heap.size w W → Refused W (.agg #[.slice A bs.length k, .int .i64 code, .int .i64 entry]) iv fv) :
    Calls Tryd.prog 4 #[.agg #[.slice A bs.length k, .int .i64 code, .int .i64 entry], iv, fv] w fun e w' => e = .returned (.bool true) ∧ Below w.heap.size w w' := by
  have HR := Aside0.mk hr
  clear hr
  have B1 := Aside0.mk (show Below w.heap.size w (w.alloc (.cells #[.slice A bs.length k, .int .i64 code, .int .i64 entry] 24)) from below_alloc (Below.refl _ _) _)
  have R2 := Aside0.mk (show (w.alloc (.cells #[.slice A bs.length k, .int .i64 code, .int .i64 entry] 24)).heap[w.heap.size]? = some (.cells #[.slice A bs.length k, .int .i64 code, .int .i64 entry] 24 (0, 0)) from heap_at _ _ _ rfl)
  have HC := Aside0.mk hC
  have HK := Aside0.mk hk
  have HH := Aside0.mk hh
  clear hC hk hh
  go_enter Tryd.func4, Tryd.ntmps4
  go_upto_region 1 with (fail)
  generalize w.alloc (.cells #[.slice A bs.length k, .int .i64 code, .int .i64 entry] 24) = W1 at B1 R2 ⊢
  generalize hg2 : w.heap.size = g2 at R2 ⊢
  have HH1 := Aside0.mk (held_below HH.out B1.out)
  have c0 := (blk_cell R2.out 0).trans rfl
  have c1 := (blk_cell R2.out 1).trans rfl
  have c2 := (blk_cell R2.out 2).trans rfl
  go_wp2_with (first | (go_at_call 8; refine (HR.out _ B1.out).mono ?_; rintro e Y ⟨rfl, hb⟩; have BB := Aside0.mk (pm_chain B1.out hb); clear hb) | (go_at_call 10; refine (mortiseref21_Same.calls 40 0 0 none 0 [] 0 0 0 none 0 [] 0 true _ (C_nil _) (by decide) (C_nil _) (by decide) (by decide +kernel)).mono ?_; rintro e Y2 ⟨rfl, b5⟩; have B5 := Aside0.mk (pm_chain (below_alloc BB.out (.cells #[.int .i64 0, .int .i64 0, .slice none 0 0, .int .i64 0] 27)) b5); clear b5) | (go_at_call 14; refine (heads_calls _ (held_below HH.out B5.out)).mono ?_; rintro e Y3 ⟨rfl, hb3⟩; have B6 := Aside0.mk (pm_chain B5.out hb3)))
  go_ret
  exact ⟨rfl, B6.out⟩
theorem code_min (l : Nat) (code entry : Int) (h : okImg l code entry) : ∃ cn n : Nat, code = (cn : Int) ∧ (n ≤ cn ∧ n ≤ l) ∧ n ≤ 65536 ∧ (if (65536 : Int) < code then (65536 : Int) else code) = (n : Int) := by
  unfold okImg at h
  refine ⟨code.toNat, min code.toNat 65536, by omega, by omega, by omega, ?_⟩
  split <;> omega
theorem ext_blk {F : Nat → Prop} {g : Nat} {b : Obj} (h : w.heap[g]? = some b) (x : Ext F w w') (n : ¬ F g) : w'.heap[g]? = some b := (x.block g (lt_of_at h) n).trans h
theorem laid_part (bs : List Int) (code : Int) (cn n : Nat) (hn : code = (cn : Int) ∧ (n ≤ cn ∧ n ≤ bs.length) ∧ n ≤ 65536) (h : ∀ i : Nat, (i : Int) < 4096 + code → byteAt ps i = laidF (fun _ => 0) 4096 bs i) : memL ps 4096 n = bs.take n := by
  obtain ⟨h1, ⟨h2, h3⟩, _⟩ := hn
  refine bytes_eq (by simp [memL, h3]) (fun i hi => ?_)
  rw [memL_len] at hi
  rw [memL_get i hi, h _ (by omega), List.getElem?_take, if_pos hi]
  unfold laidF
  rw [if_pos (by omega), show 4096 + i - 4096 = i by omega]
theorem same21 (a b d : Int) (l : List Int) (hl : l.length ≤ 4194304) : mortiseref21_Same.f 5000000 a b l d a b l d = some true := by
  unfold mortiseref21_Same.f
  have h := same_self l (by omega) 5000000 (by omega)
  simp [h]
theorem same_take2 (A A2 : Option Addr) (k k2 : Nat) (xs ys : List Int) (e : xs = ys) (h1 : Kd.C (Kd.int .u8) w A ys.length xs) (h2 : Kd.C (Kd.int .u8) w A2 ys.length ys) (hk : ys.length ≤ k) (hk2 : ys.length ≤ k2) (hn : ys.length ≤ 4194304) : Calls Tryd.prog 13 #[.slice A ys.length k, .slice A2 ys.length k2] w fun e w' => e = .returned (.bool true) ∧ Below w.heap.size w w' := by
  subst e
  refine (mortiseref01_Same.calls 5000000 A k xs A2 k2 xs true w h1 hk h2 hk2 (same_self xs (by omega) 5000000 (by omega))).mono ?_
  rintro e w' ⟨rfl, hd⟩
  exact ⟨rfl, dn0_below hd⟩
theorem min_facts (F F2 f M : Nat) (h : F2 = min M f) (hf : f = F + 50) (hF : F ≤ M) : F ≤ F2 ∧ F2 ≤ M ∧ (if (f : Int) < (M : Int) then (f : Int) else (M : Int)) = (F2 : Int) := by
  refine ⟨by omega, by omega, ?_⟩
  split <;> omega
theorem min_ex (F f M : Nat) (hf : f = F + 50) (hF : F ≤ M) : ∃ F2 : Nat, F ≤ F2 ∧ F2 ≤ M ∧ (if (f : Int) < (M : Int) then (f : Int) else (M : Int)) = (F2 : Int) := ⟨min M f, min_facts F _ f M rfl hf hF⟩
theorem min_lit (F f : Nat) (hf : f = F + 50) (hF : F ≤ 4194304) : ∃ F2 : Nat, F ≤ F2 ∧ F2 ≤ 4194304 ∧ (if (f : Int) < 4194304 then (f : Int) else 4194304) = (F2 : Int) := min_ex F f 4194304 hf hF
theorem run_at (w : World) (hh : Held w) (A : Option Addr) (k : Nat) (bs : List Int) (code entry : Int) (Ai : Option Addr) (ki : Nat) (inp : List Int) (F : Nat) (hC : Kd.C (Kd.int .u8) w A bs.length bs) (hk : bs.length ≤ k) (ho : okImg bs.length code entry)
    (hx : ∀ b ∈ bs, 0 ≤ b ∧ b < 256) (hCi : Kd.C (Kd.int .u8) w Ai inp.length inp) (hi : inp.length ≤ 140737488355328) (hxi : ∀ b ∈ inp, 0 ≤ b ∧ b < 256) (hf : 1 ≤ F ∧ F ≤ 4194304) {q : Ran} (hq : runM F (startR bs code entry inp) = q) :
    Calls Tryd.prog 8 #[.agg #[.slice A bs.length k, .int .i64 code, .int .i64 entry], .slice Ai inp.length ki, .int .i64 F] w fun e w' => ∃ A2 k2, e = .returned (.tuple #[.agg #[.int .i64 (stopOf q), .int .i64 q.S.exit, .slice A2 q.out.length k2, .int .i64 q.S.steps], .int .i64 0]) ∧ Kd.C (Kd.int .u8) w' A2 q.out.length q.out ∧ q.out.length ≤ k2 ∧ Below w.heap.size w w' := by
  refine (run_yes w hh A k bs code entry Ai ki inp F hC hk ho hx hCi hi hxi hf).mono ?_
  rintro e w' ⟨v, rfl, hV, hb⟩
  rw [hq] at hV ⊢
  obtain ⟨A2, k2, rfl⟩ := Kd.R_slice hV
  obtain ⟨_, hk2, hC2⟩ := Kd.R_reads' hV
  exact ⟨A2, k2, rfl, hC2, hk2, hb⟩
set_option maxHeartbeats 4000000 in
set_option maxRecDepth 100000 in
theorem on_yes (w : World) (hh : Held w) (A : Option Addr) (k : Nat) (bs : List Int) (code entry : Int) (Ai : Option Addr) (ki : Nat) (inp : List Int) (F : Nat) (hC : Kd.C (Kd.int .u8) w A bs.length bs) (hk : bs.length ≤ k) (ho : okImg bs.length code entry)
    (hx : ∀ b ∈ bs, 0 ≤ b ∧ b < 256) (hCi : Kd.C (Kd.int .u8) w Ai inp.length inp) (hi : inp.length ≤ 140737488355328) (hxi : ∀ b ∈ inp, 0 ≤ b ∧ b < 256) (hf : 1 ≤ F ∧ F ≤ 4194304) :
    Calls Tryd.prog 4 #[.agg #[.slice A bs.length k, .int .i64 code, .int .i64 entry], .slice Ai inp.length ki, .int .i64 F] w fun e w' => e = .returned (.bool true) ∧ Below w.heap.size w w' := by
  obtain ⟨f50, hf50⟩ : ∃ f, f = F + 50 := ⟨_, rfl⟩
  obtain ⟨F2, hF3, hF4, hmin⟩ := min_lit F f50 hf50 hf.2
  obtain ⟨r1, hr1⟩ : ∃ r, runM F (startR bs code entry inp) = r := ⟨_, rfl⟩
  obtain ⟨r2, hr2⟩ : ∃ r, runM F2 (startR bs code entry inp) = r := ⟨_, rfl⟩
  have h12 : r2 = runM (F2 - F) r1 := by rw [← hr1, ← run_add, show F + (F2 - F) = F2 by omega, hr2]
  have hsame : stopOf r1 ≠ 4 → r2 = r1 := by
    intro h
    rw [h12]
    refine run_still _ _ (fun h0 => h ?_)
    unfold stopOf
    rw [if_neg (by simp [h0])]
  obtain ⟨tl, htl⟩ : ∃ t, r2.out = r1.out ++ t := by rw [h12]; exact run_grows _ _
  have hcnt := run_counts F (startR bs code entry inp)
  rw [hr1] at hcnt
  have hst0 : (startR bs code entry inp).S.steps = 0 ∧ (startR bs code entry inp).out = [] ∧ (startR bs code entry inp).S.ended = 0 := ⟨rfl, rfl, rfl⟩
  rw [hst0.1, hst0.2.1] at hcnt
  have CN := Aside0.mk (show r1.S.steps ≤ F ∧ 1 ≤ r1.S.steps ∧ (r1.out.length : Int) ≤ r1.S.steps by
    obtain ⟨a1, a2, a3, a4⟩ := hcnt
    have := a4 (by omega) hst0.2.2
    simp at a3
    omega)
  have hcnt2 := run_counts F2 (startR bs code entry inp)
  rw [hr2, hst0.1, hst0.2.1] at hcnt2
  have CN2 := Aside0.mk (show r2.out.length ≤ 4194304 by
    obtain ⟨a1, a2, a3, a4⟩ := hcnt2
    simp at a3
    omega)
  have hwf : IntKind.i64.wrap ((F : Int) + 50) = (f50 : Int) := by rw [IntWalk.i64_in _ (by omega)]; omega
  have FF := Aside0.mk (And.intro hf (show 1 ≤ F2 ∧ F2 ≤ 4194304 from ⟨Nat.le_trans hf.1 hF3, hF4⟩))
  have HO := Aside0.mk ho
  have HX := Aside0.mk hx
  have HCI := Aside0.mk hCi
  have HI := Aside0.mk hi
  have HXI := Aside0.mk hxi
  have Q1 := Aside0.mk hr1
  have Q2 := Aside0.mk hr2
  have SM := Aside0.mk hsame
  have TL := Aside0.mk htl
  clear hf ho hx hCi hi hxi hr1 hr2 hsame htl hcnt hcnt2 hst0 h12 hF3 hF4 hf50
  have B1 := Aside0.mk (show Below w.heap.size w (w.alloc (.cells #[.slice A bs.length k, .int .i64 code, .int .i64 entry] 24)) from below_alloc (Below.refl _ _) _)
  have R2 := Aside0.mk (show (w.alloc (.cells #[.slice A bs.length k, .int .i64 code, .int .i64 entry] 24)).heap[w.heap.size]? = some (.cells #[.slice A bs.length k, .int .i64 code, .int .i64 entry] 24 (0, 0)) from heap_at _ _ _ rfl)
  have HC := Aside0.mk hC
  have HK := Aside0.mk hk
  have HH := Aside0.mk hh
  clear hC hk hh
  go_enter Tryd.func4, Tryd.ntmps4
  go_upto_region 1 with (fail)
  generalize w.alloc (.cells #[.slice A bs.length k, .int .i64 code, .int .i64 entry] 24) = W1 at B1 R2 ⊢
  generalize hg2 : w.heap.size = g2 at R2 ⊢
  have HH1 := Aside0.mk (held_below HH.out B1.out)
  have c0 := (blk_cell R2.out 0).trans rfl
  have c1 := (blk_cell R2.out 1).trans rfl
  have c2 := (blk_cell R2.out 2).trans rfl
  go_upto_region 4 with (first | (go_at_call 8; refine (run_at W1 HH1.out A k bs code entry Ai ki inp F (Kd.C_below HC.out B1.out) HK.out HO.out HX.out (Kd.C_below HCI.out B1.out) HI.out HXI.out FF.out.1 Q1.out).mono ?_; rintro e Y ⟨A2, k2, rfl, hC2, hk2, hb⟩))
  have C2 := Aside0.mk (Kd.C_below hC2 (below_alloc (Below.refl Y.heap.size Y) (.cells #[.int .i64 (stopOf r1), .int .i64 r1.S.exit, .slice A2 r1.out.length k2, .int .i64 r1.S.steps] 27)))
  have B2 := Aside0.mk (show Below w.heap.size w (Y.alloc (.cells #[.int .i64 (stopOf r1), .int .i64 r1.S.exit, .slice A2 r1.out.length k2, .int .i64 r1.S.steps] 27)) from below_alloc (pm_chain B1.out hb) _)
  have R7 := Aside0.mk (show (Y.alloc (.cells #[.int .i64 (stopOf r1), .int .i64 r1.S.exit, .slice A2 r1.out.length k2, .int .i64 r1.S.steps] 27)).heap[Y.heap.size]? = some (.cells #[.int .i64 (stopOf r1), .int .i64 r1.S.exit, .slice A2 r1.out.length k2, .int .i64 r1.S.steps] 27 (0, 0)) from heap_at _ _ _ rfl)
  have R3 := Aside0.mk (blk_alloc (blk_below R2.out hb) (.cells #[.int .i64 (stopOf r1), .int .i64 r1.S.exit, .slice A2 r1.out.length k2, .int .i64 r1.S.steps] 27))
  have K2 := Aside0.mk hk2
  clear hC2 hk2 hb c0 c1 c2
  generalize Y.alloc (.cells #[.int .i64 (stopOf r1), .int .i64 r1.S.exit, .slice A2 r1.out.length k2, .int .i64 r1.S.steps] 27) = W2 at C2 B2 R7 R3 ⊢
  generalize Y.heap.size = g7 at R7 ⊢
  have HH2 := Aside0.mk (held_below HH.out B2.out)
  have c0 := (blk_cell R3.out 0).trans rfl
  have c1 := (blk_cell R3.out 1).trans rfl
  have c2 := (blk_cell R3.out 2).trans rfl
  go_upto_region 5 with (first | (go_at_call 8; refine (run_at W2 HH2.out A k bs code entry Ai ki inp F2 (Kd.C_below HC.out B2.out) HK.out HO.out HX.out (Kd.C_below HCI.out B2.out) HI.out HXI.out FF.out.2 Q2.out).mono ?_; rintro e Y3 ⟨A3, k3, rfl, hC3, hk3, hb3⟩))
  have C3 := Aside0.mk (Kd.C_below hC3 (below_alloc (Below.refl Y3.heap.size Y3) (.cells #[.int .i64 (stopOf r2), .int .i64 r2.S.exit, .slice A3 r2.out.length k3, .int .i64 r2.S.steps] 27)))
  have C4 := Aside0.mk (Kd.C_below C2.out (below_alloc hb3 (.cells #[.int .i64 (stopOf r2), .int .i64 r2.S.exit, .slice A3 r2.out.length k3, .int .i64 r2.S.steps] 27)))
  have B3 := Aside0.mk (show Below w.heap.size w (Y3.alloc (.cells #[.int .i64 (stopOf r2), .int .i64 r2.S.exit, .slice A3 r2.out.length k3, .int .i64 r2.S.steps] 27)) from below_alloc (pm_chain B2.out hb3) _)
  have R9 := Aside0.mk (show (Y3.alloc (.cells #[.int .i64 (stopOf r2), .int .i64 r2.S.exit, .slice A3 r2.out.length k3, .int .i64 r2.S.steps] 27)).heap[Y3.heap.size]? = some (.cells #[.int .i64 (stopOf r2), .int .i64 r2.S.exit, .slice A3 r2.out.length k3, .int .i64 r2.S.steps] 27 (0, 0)) from heap_at _ _ _ rfl)
  have R8 := Aside0.mk (blk_alloc (blk_below R7.out hb3) (.cells #[.int .i64 (stopOf r2), .int .i64 r2.S.exit, .slice A3 r2.out.length k3, .int .i64 r2.S.steps] 27))
  have R5 := Aside0.mk (blk_alloc (blk_below R3.out hb3) (.cells #[.int .i64 (stopOf r2), .int .i64 r2.S.exit, .slice A3 r2.out.length k3, .int .i64 r2.S.steps] 27))
  have K3 := Aside0.mk hk3
  clear hC3 hk3 hb3 c0 c1 c2 R7 R3 C2 hwf hmin
  generalize Y3.alloc (.cells #[.int .i64 (stopOf r2), .int .i64 r2.S.exit, .slice A3 r2.out.length k3, .int .i64 r2.S.steps] 27) = W3 at C3 C4 B3 R9 R8 R5 ⊢
  generalize Y3.heap.size = g9 at R9 ⊢
  have hs1 : ¬ (r1.S.steps > (F : Int)) := by have := CN.out; omega
  have hs2 : ¬ (r1.S.steps < 1) := by have := CN.out; omega
  have hs3 : ¬ ((r1.out.length : Int) > r1.S.steps) := by have := CN.out; omega
  have d0 := (blk_cell R8.out 0).trans rfl
  have d1 := (blk_cell R8.out 1).trans rfl
  have d2 := (blk_cell R8.out 2).trans rfl
  have d3 := (blk_cell R8.out 3).trans rfl
  have e0 := (blk_cell R9.out 0).trans rfl
  have e1 := (blk_cell R9.out 1).trans rfl
  have e2 := (blk_cell R9.out 2).trans rfl
  have e3 := (blk_cell R9.out 3).trans rfl
  go_upto_region 7 with (fail)
  clear hs1 hs2 hs3
  have hsm : ¬ stopOf r1 = 4 → mortiseref21_Same.f 5000000 (stopOf r1) r1.S.exit r1.out r1.S.steps (stopOf r2) r2.S.exit r2.out r2.S.steps = some true := fun h => by
    have e := SM.out h
    rw [e]
    exact same21 _ _ _ _ (by have := CN2.out; rwa [e] at this)
  have HS2 := Aside0.mk hsm
  clear hsm
  go_cut [70] (fun v70 wc => v70 = .bool false ∧ Aside0 (Below W3.heap.size W3 wc))
  case first =>
    by_cases h4 : stopOf r1 = 4
    · go_wp2_with (fail)
      all_goals go_meet
      case rel => exact ⟨rfl, ⟨Below.refl _ _⟩⟩
    · have SF := Aside0.mk (HS2.out h4)
      go_wp2_with (first | (go_at_call 10; refine (mortiseref21_Same.calls 5000000 (stopOf r1) r1.S.exit A2 k2 r1.out r1.S.steps (stopOf r2) r2.S.exit A3 k3 r2.out r2.S.steps true _ C4.out K2.out C3.out K3.out SF.out).mono ?_; rintro e Y4 ⟨rfl, hb4⟩; have B4 := Aside0.mk hb4; clear hb4))
      all_goals go_meet
      case rel => exact ⟨rfl, ⟨B4.out⟩⟩
  case rest =>
    obtain ⟨rfl, B4⟩ := hcut
    have R18 := Aside0.mk (blk_below R8.out B4.out)
    have R19 := Aside0.mk (blk_below R9.out B4.out)
    have R15 := Aside0.mk (blk_below R5.out B4.out)
    have C14 := Aside0.mk (Kd.C_below C4.out B4.out)
    have C13 := Aside0.mk (Kd.C_below C3.out B4.out)
    have B5 := Aside0.mk (pm_chain B3.out B4.out)
    clear d0 d1 d2 d3 e0 e1 e2 e3 HS2 R8 R9 R5 C3 C4
    have d2 := (blk_cell R18.out 2).trans rfl
    have e2 := (blk_cell R19.out 2).trans rfl
    have LE := Aside0.mk (show r1.out.length ≤ r2.out.length by rw [TL.out]; simp)
    have hlt : ¬ ((r2.out.length : Int) < (r1.out.length : Int)) := by have := LE.out; omega
    have hcut := cut_hi A3 r2.out.length k3 r1.out.length (by have := LE.out; have := K3.out; omega)
    have CT := Aside0.mk (C_take2 C13.out LE.out)
    have TK := Aside0.mk (show r2.out.take r1.out.length = r1.out by rw [TL.out]; simp)
    go_upto_region 9 with (fail)
    refine wp_region_still_tail 16 (by kernel_rfl) (by kernel_rfl) ?_
    simp only [List.take_succ_cons, List.take_zero, List.drop_succ_cons, List.drop_zero]
    repeat (with_reducible refine wpStill_step (fun K hK => ?_); go_simp; with_reducible refine hK _ ?_; clear hK K)
    with_reducible refine wpStill_nil ?_
    change wpList _ _ _ _ _ wc.drew
    go_upto_region 11 with (first | (go_at_call 13; refine (same_take2 (w := wc.drew) A3 A2 k3 k2 (r2.out.take r1.out.length) r1.out TK.out (Kd.C_below CT.out (Below.refl _ _).drew) (Kd.C_below C14.out (Below.refl _ _).drew) (by have := LE.out; have := K3.out; omega) K2.out (by have := LE.out; have := CN2.out; omega)).mono ?_; rintro e Y5 ⟨rfl, hb5⟩; have B6 := Aside0.mk (pm_chain (Below.refl wc.heap.size wc).drew hb5); clear hb5))
    clear d2 e2 hlt hcut
    have B7 := Aside0.mk (pm_chain B5.out B6.out)
    have R25 := Aside0.mk (blk_below R15.out B6.out)
    have c0 := (blk_cell R25.out 0).trans rfl
    have c1 := (blk_cell R25.out 1).trans rfl
    have c2 := (blk_cell R25.out 2).trans rfl
    go_upto_region 14 with (first | (go_at_call 15; refine (new_yes _ A k bs code entry Ai ki inp (Kd.C_below HC.out B7.out) HK.out HO.out HX.out (Kd.C_below HCI.out B7.out) HI.out).mono ?_; rintro e Y6 ⟨c, pg, ps, S, rfl, hem, hb, hfo, hS, hby⟩; have R26 := Aside0.mk (blk_below R25.out hb); have EM1 := Aside0.mk hem; have BY := Aside0.mk hby; have HS := Aside0.mk hS; have FO := Aside0.mk hfo; have B8 := Aside0.mk hb; clear hem hb hfo hby hS))
    clear c0 c1 c2
    obtain ⟨iv, hiv⟩ := HS.out
    subst hiv
    clear HS
    have HH6 := Aside0.mk (held_below HH.out (pm_chain B7.out B8.out))
    have G25 := Aside0.mk (lt_of_at R25.out)
    have HZ5 := Aside0.mk (show 0 < Y5.heap.size by have := lt_of_at R25.out; omega)
    clear R25
    obtain ⟨cn, n, hcn, hn1, hn2, hmin⟩ := code_min bs.length code entry HO.out
    have HN := Aside0.mk (And.intro hcn (And.intro hn1 hn2))
    have MN := Aside0.mk hmin
    clear hcn hn1 hn2 hmin
    go_wp2_with (fail)
    go_loopg [13] 60 (fun kq v13 wr => ∃ (j : Nat) (r : Ran) (psj : Pages) (a b : Value), j + kq = 60 ∧ v13 = .int .i64 (j : Int) ∧ Aside0 (EM wr c pg psj (reV r.S a b) r.inp r.out) ∧ Aside0 (Below Y5.heap.size Y5 wr) ∧ Aside0 (wr.heap[g2]? = some (.cells #[.slice A bs.length k, .int .i64 code, .int .i64 entry] 24 (0, 0))) ∧ Aside0 (∀ i ∈ foot c pg psj (reV r.S a b), Y5.heap.size ≤ i) ∧ Aside0 (byteAt psj = r.m ∧ r.S.code = code ∧ ∀ i : Nat, (i : Int) < 4096 + code → r.m i = laidF (fun _ => 0) 4096 bs i) ∧ Aside0 (r.S.ended = 0 ∧ r.S.steps = j ∧ r.out.length ≤ j) ∧ Aside0 (∀ v ∈ r.inp, 0 ≤ v ∧ v < 256))
    case atStart => exact ⟨0, startR bs code entry inp, ps, iv, .slice none 0 0, by omega, rfl, ⟨EM1.out⟩, ⟨B8.out⟩, ⟨R26.out⟩, ⟨FO.out⟩, ⟨funext BY.out, rfl, fun _ _ => rfl⟩, ⟨rfl, rfl, Nat.le_refl 0⟩, ⟨HXI.out⟩⟩
    case round =>
      obtain ⟨j, r, psj, a, b, hj, rfl, HE, HB, HR, HFO, HM, HS, HIN⟩ := hrel
      have HWr := Aside0.mk (held_below HH.out (pm_chain B7.out HB.out))
      have H00 := Aside0.mk (show 0 ∉ foot c pg psj (reV r.S a b) from fun h => by have := HFO.out 0 h; have := HZ5.out; omega)
      by_cases hlt : j < 60
      · have hlt2 : (j : Int) < 60 := by omega
        have HJ := Aside0.mk (And.intro hj hlt)
        have hw4 : IntKind.i64.wrap ((j : Int) + 1) = ((j + 1 : Nat) : Int) := by rw [IntWalk.i64_in _ (by omega)]; omega
        clear hj hlt
        obtain ⟨q, hq⟩ : ∃ q, q = stepM r.m r.S r.inp r.out := ⟨_, rfl⟩
        have STEP := Aside0.mk (step_q HE.out HM.out.1 HWr.out H00.out (by have := HS.out.2.1; have := HJ.out; omega) HIN.out (by have := HS.out.2.2; have := HJ.out; omega))
        rw [← hq] at STEP
        have KEEP := Aside0.mk (step_keeps r.m r.S r.inp r.out HS.out.1)
        rw [← hq] at KEEP
        have LOW := Aside0.mk (fun i h => (step_low r.m r.S r.inp r.out i (by rw [HM.out.2.1]; exact h)).trans (HM.out.2.2 i h))
        rw [← hq] at LOW
        clear hq
        have HLQ := Aside0.mk (show q.out.length ≤ j + 1 by
          have := HS.out.2.2
          rcases KEEP.out.2.2.1 with e | ⟨v, e⟩ <;> rw [e] <;> simp <;> omega)
        by_cases hz : q.S.ended = 0
        · have HZ := Aside0.mk hz
          clear hz
          go_wp2_with (first | (go_at_call 16; refine STEP.out.mono ?_; rintro e W5 ⟨rfl, hd5⟩; rw [HZ.out]))
          obtain ⟨iv2, ov2, ps', D, hb5⟩ := hd5
          go_roundg (60 - (j + 1))
          case measure => have := HJ.out; omega
          case rel =>
            have h1 := HJ.out
            have hb9 := HB.out.trans (D.ext.below_of HB.out.size (fun i hi => HFO.out i hi))
            refine ⟨j + 1, q, ps', iv2, ov2, by omega, by simp, ⟨D.em⟩, ⟨hb9⟩, ⟨ext_blk HR.out D.ext (fun h => by have := HFO.out _ h; have := G25.out; omega)⟩, ⟨fun i hi => ?_⟩, ⟨hb5, KEEP.out.2.1.trans HM.out.2.1, LOW.out⟩, ⟨HZ.out, ?_, HLQ.out⟩, ⟨fun v hv => ?_⟩⟩
            · rcases D.new i hi with h5 | h5
              · exact HFO.out i h5
              · exact Nat.le_trans HB.out.size h5
            · rw [KEEP.out.1, HS.out.2.1]; simp
            · rcases KEEP.out.2.2.2 with e | ⟨u, e⟩
              · rw [e] at hv; exact HIN.out v hv
              · exact HIN.out v (by rw [e]; exact List.mem_cons_of_mem _ hv)
        · have HZ := Aside0.mk hz
          go_upto_region 17 with (first | (go_at_call 16; refine STEP.out.mono ?_; rintro e W5 ⟨rfl, iv2, ov2, ps', D, hb5⟩; have D5 := Aside0.mk D; have M5 := Aside0.mk hb5; clear D hb5))
          have BX := Aside0.mk (pm_chain B7.out (HB.out.trans (D5.out.ext.below_of HB.out.size (fun i hi => HFO.out i hi))))
          have EX := Aside0.mk D5.out.em
          have MX := Aside0.mk (fun (i : Nat) (h : (i : Int) < 4096 + code) => (congrFun M5.out i).trans (LOW.out i h))
          have RX := Aside0.mk (ext_blk HR.out D5.out.ext (fun h => by have := HFO.out _ h; have := G25.out; omega))
          clear hz
          have c1 := (blk_cell RX.out 1).trans rfl
          have hmin := MN.out
          go_upto_region 18 with (fail)
          clear c1 hmin
          go_upto_region 19 with (first | (go_at_call 17; refine (peek_a EX.out n HN.out.2.2).mono ?_; rintro e P1 ⟨rfl, hb1_, hr1_⟩; have hb1 := Aside0.mk hb1_; have hr1 := Aside0.mk hr1_; clear hb1_ hr1_))
          have BP3 := Aside0.mk (pm_chain BX.out hb1.out)
          have R9 := Aside0.mk (blk_below RX.out hb1.out)
          have RA := Aside0.mk (laid_part bs code cn n HN.out MX.out ▸ hr1.out)
          clear hb1 hr1
          generalize W5.heap.size = s1 at RA ⊢
          have c0 := (blk_cell R9.out 0).trans rfl
          have hcut := cut_hi A bs.length k n (by have := HN.out; have := HK.out; omega)
          have CS := Aside0.mk (C_row RA.out (by have := HN.out; simp; omega))
          have CT := Aside0.mk (C_take2 (Kd.C_below HC.out BP3.out) HN.out.2.1.2)
          have TLn := Aside0.mk (show (bs.take n).length = n by have := HN.out; simp; omega)
          go_wp2_with (first | (go_at_call 13; refine (same_take (w := P1) s1 A k n (bs.take n) TLn.out CS.out CT.out (by have := HN.out; have := HK.out; omega) HN.out.2.2).mono ?_; rintro e P4 ⟨rfl, hb4⟩; have BP4 := Aside0.mk (pm_chain BP3.out hb4); clear hb4) | (go_at_call 14; refine (heads_calls _ (held_below HH.out BP4.out)).mono ?_; rintro e P6 ⟨rfl, hb6⟩; have B6z := Aside0.mk (pm_chain BP4.out hb6); clear hb6))
          go_ret
          exact ⟨rfl, B6z.out⟩
      · have BX := Aside0.mk (pm_chain B7.out HB.out)
        have EX := Aside0.mk HE.out
        have MX := Aside0.mk (fun (i : Nat) (h : (i : Int) < 4096 + code) => (congrFun HM.out.1 i).trans (HM.out.2.2 i h))
        have RX := Aside0.mk HR.out
        have hlt2 : ¬ (j : Int) < 60 := by omega
        clear hlt hj
        go_upto_region 17 with (fail)
        have c1 := (blk_cell RX.out 1).trans rfl
        have hmin := MN.out
        go_upto_region 18 with (fail)
        clear c1 hmin
        go_upto_region 19 with (first | (go_at_call 17; refine (peek_a EX.out n HN.out.2.2).mono ?_; rintro e P1 ⟨rfl, hb1_, hr1_⟩; have hb1 := Aside0.mk hb1_; have hr1 := Aside0.mk hr1_; clear hb1_ hr1_))
        have BP3 := Aside0.mk (pm_chain BX.out hb1.out)
        have R9 := Aside0.mk (blk_below RX.out hb1.out)
        have RA := Aside0.mk (laid_part bs code cn n HN.out MX.out ▸ hr1.out)
        clear hb1 hr1
        generalize wr.heap.size = s1 at RA ⊢
        have c0 := (blk_cell R9.out 0).trans rfl
        have hcut := cut_hi A bs.length k n (by have := HN.out; have := HK.out; omega)
        have CS := Aside0.mk (C_row RA.out (by have := HN.out; simp; omega))
        have CT := Aside0.mk (C_take2 (Kd.C_below HC.out BP3.out) HN.out.2.1.2)
        have TLn := Aside0.mk (show (bs.take n).length = n by have := HN.out; simp; omega)
        go_wp2_with (first | (go_at_call 13; refine (same_take (w := P1) s1 A k n (bs.take n) TLn.out CS.out CT.out (by have := HN.out; have := HK.out; omega) HN.out.2.2).mono ?_; rintro e P4 ⟨rfl, hb4⟩; have BP4 := Aside0.mk (pm_chain BP3.out hb4); clear hb4) | (go_at_call 14; refine (heads_calls _ (held_below HH.out BP4.out)).mono ?_; rintro e P6 ⟨rfl, hb6⟩; have B6z := Aside0.mk (pm_chain BP4.out hb6); clear hb6))
        go_ret
        exact ⟨rfl, B6z.out⟩
theorem emuOn_calls (w : World) (hh : Held w) (A : Option Addr) (k : Nat) (bs : List Int) (code entry : Int) (Ai : Option Addr) (ki : Nat) (inp : List Int) (fuel : Int) (hC : Kd.C (Kd.int .u8) w A bs.length bs) (hk : bs.length ≤ k)
    (hx : ∀ b ∈ bs, 0 ≤ b ∧ b < 256) (hCi : Kd.C (Kd.int .u8) w Ai inp.length inp) (hi : inp.length ≤ 140737488355328) (hxi : ∀ b ∈ inp, 0 ≤ b ∧ b < 256) :
    Calls Tryd.prog 4 #[.agg #[.slice A bs.length k, .int .i64 code, .int .i64 entry], .slice Ai inp.length ki, .int .i64 fuel] w fun e w' => e = .returned (.bool true) ∧ Below w.heap.size w w' := by
  by_cases ho : okImg bs.length code entry
  · by_cases hf : fuel < 1 ∨ fuel > 4194304
    · exact on_no w hh A k bs code entry _ _ hC hk (fun W hb => run_fuel W A k bs code entry Ai ki inp fuel (Kd.C_below hC hb) hk ho hx (Kd.C_below hCi hb) hi hf)
    · obtain ⟨F, hF⟩ : ∃ F : Nat, fuel = (F : Int) := ⟨fuel.toNat, by omega⟩
      subst hF
      exact on_yes w hh A k bs code entry Ai ki inp F hC hk ho hx hCi hi hxi (by omega)
  · exact on_no w hh A k bs code entry _ _ hC hk (fun W hb => run_no W A k bs code entry _ fuel (Kd.C_below hC hb) hk ho)
end Go.Proofs.YtejhnlljddjicaaDoor.Ma
