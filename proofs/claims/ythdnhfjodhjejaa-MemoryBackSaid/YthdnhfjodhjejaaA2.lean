/- memory.pointer's answer. No condition beyond those each theorem names. And more of the kind: 4 texts in one. -/
import Derived.Test.YthdnhfjodhjejaaA1
import Derived.Test.YthdnhfjodhjejaaN1
import Derived.Deep.DeepMust
namespace Go.Proofs.Ythdnhfjodhjejaa.Ma
open Go.RowKit Go.Proofs.Ythdnhfjodhjejaa.PMe Go.Proofs.YthdnhfjodhjejaaW.PrintWords Go.Proofs.YthdnhfjodhjejaaW.PrintLast Go.Proofs.YthdnhfjodhjejaaW.PrintMore
set_option linter.unusedVariables false
set_option linter.unusedSimpArgs false
variable {w w' : World} {m mm : Nat} {last : Int} {L : List Rec}
def V3.z : V3 := ⟨0, 0, 0⟩
def isPart (c : S66) (v b i : Int) : Bool := c.f0 == 2 && c.f1 == v && c.f2 == b && c.f3 == i
def ptrF : List S66 → Option V3
  | [c0, c1, c2, c3] => if isPart c0 c0.f1 c0.f2 0 && isPart c1 c0.f1 c0.f2 1 && isPart c2 c0.f1 c0.f2 2 && isPart c3 c0.f1 c0.f2 3 then some ⟨2, c0.f1, c0.f2⟩ else none
  | _ => none
def ptrAns : Option V3 → Int × Int × Int × Bool
  | some q => (q.k, q.v, q.b, true)
  | none => (0, 0, 0, false)
theorem part_test (c : S66) (v b i : Int) : (!(c.f0 == 2) || (!(c.f1 == v) || (!(c.f2 == b) || !(c.f3 == i)))) = !(isPart c v b i) := by
  unfold isPart
  cases c.f0 == 2 <;> cases c.f1 == v <;> cases c.f2 == b <;> cases c.f3 == i <;> rfl
theorem pointer_f (l : List S66) (h : l.length = 1 ∨ l.length = 2 ∨ l.length = 4) : memory_pointer.f 5 l = some (ptrAns (ptrF l)) := by
  rcases h with h | h | h
  · obtain ⟨a, rfl⟩ := List.length_eq_one_iff.1 h
    simp [memory_pointer.f, memory_pointer.l0, ptrF, ptrAns]
  · match l, h with
    | [a, b], _ => simp [memory_pointer.f, memory_pointer.l0, ptrF, ptrAns]
  · match l, h with
    | [a, b, c, d], _ =>
      simp only [memory_pointer.f, memory_pointer.l0, memory_part.f, List.length_cons, List.length_nil, Option.bind_some, part_test]
      have w0 : wrap64 ((0 : Int) + 1) = 1 := by simp [wrap64]
      have w1 : wrap64 ((1 : Int) + 1) = 2 := by simp [wrap64]
      have w2 : wrap64 ((2 : Int) + 1) = 3 := by simp [wrap64]
      have w3 : wrap64 ((3 : Int) + 1) = 4 := by simp [wrap64]
      rw [w0, w1, w2, w3]
      simp only [ptrF]
      cases h0 : isPart a a.f1 a.f2 0 <;> cases h1 : isPart b a.f1 a.f2 1 <;> cases h2 : isPart c a.f1 a.f2 2 <;> cases h3 : isPart d a.f1 a.f2 3 <;> simp [rd_T66, h0, h1, h2, h3, ptrAns]
end Go.Proofs.Ythdnhfjodhjejaa.Ma
namespace Go.Proofs.Ythdnhfjodhjejaa.Ma
open Go.RowKit Go.Proofs.Ythdnhfjodhjejaa.PMe Go.Proofs.YthdnhfjodhjejaaW.PrintWords Go.Proofs.YthdnhfjodhjejaaW.PrintLast Go.Proofs.YthdnhfjodhjejaaW.PrintMore
set_option linter.unusedVariables false
set_option linter.unusedSimpArgs false
variable {w w' : World} {m mm : Nat} {last : Int} {L : List Rec}
theorem run_eqnil (W : World) : (binOp .eql 60 (.slice none 0 0) (.slice none 0 0)).run Try.prog W = .ok (.bool true) W := by kernel_rfl
theorem run_eqsome (W : World) (ad : Addr) (n c : Nat) : (binOp .eql 60 (.slice (some ad) n c) (.slice none 0 0)).run Try.prog W = .ok (.bool false) W := by kernel_rfl
theorem put3 {W : World} {g : Nat} {a b c : Value} {t : TypeId} (B : W.heap[g]? = some (.cells #[a, b, c] t (0, 0))) (x y z : Value) : (((W.setCell ⟨g, 0, none⟩ x).setCell ⟨g, 1, none⟩ y).setCell ⟨g, 2, none⟩ z).heap[g]? = some (.cells #[x, y, z] t (0, 0)) :=
  blk_put (blk_put (blk_put B 0 x rfl) 1 y rfl) 2 z rfl
theorem know3 {W : World} {g : Nat} {a b c : Value} {t : TypeId} (B : W.heap[g]? = some (.cells #[a, b, c] t (0, 0))) :
    (W.cell? ⟨g, 0, none⟩ = some a ∧ W.cell? ⟨g, 1, none⟩ = some b ∧ W.cell? ⟨g, 2, none⟩ = some c) ∧ (W.frozen? ⟨g, 0, none⟩ = false ∧ W.frozen? ⟨g, 1, none⟩ = false ∧ W.frozen? ⟨g, 2, none⟩ = false) :=
  ⟨⟨(blk_cell B 0).trans rfl, (blk_cell B 1).trans rfl, (blk_cell B 2).trans rfl⟩, blk_frozen B 0, blk_frozen B 1, blk_frozen B 2⟩
theorem heap_at (W : World) (o : Obj) (n : Nat) (h : n = W.heap.size) : (W.alloc o).heap[n]? = some o := by subst h; exact heap_alloc_last W o
set_option maxHeartbeats 4000000 in
set_option maxRecDepth 100000 in
theorem Load_pow (w : World) (m : Value) (x : V3) (n : Int) (sg : Bool) (hn : pow2 n = false) : Calls Try.prog 25 #[m, x.enc, .int .i64 n, .bool sg] w fun e w' => e = .returned (.tuple #[V3.z.enc, .int .i64 3]) ∧ Below w.heap.size w w' := by
  have hu51 := Try.underlying51
  have hu60 := run_eqnil
  have hu61 := run_eqsome
  have HN := Aside0.mk hn
  clear hn
  obtain ⟨k, v, b⟩ := x
  unfold V3.enc V3.z
  simp only
  go_enter Try.func25, Try.ntmps25
  go_wp2_with (first | (go_at_call 51; refine (power_calls _ n).mono ?_; rintro e w' ⟨rfl, nk, rfl⟩; rw [HN.out]))
  refine bodyPost_ret (results_ct rfl _ _ (w.heap.size + 1) 51 _ (0, 0) _ rfl (put3 (blk_drewN (heap_at _ _ _ (by simp)) _) _ _ _) Try.underlying51 rfl (by kernel_rfl)) rfl ?_
  exact ⟨rfl, by (repeat (first | (with_reducible exact Below.refl _ _) | (with_reducible assumption) | with_reducible apply below_alloc | with_reducible apply pw_below_drewN | with_reducible apply below_drew1 | (refine below_set ?_ (by omega))))⟩
set_option maxHeartbeats 4000000 in
set_option maxRecDepth 100000 in
theorem Load_none (h : PM w m mm last L) (x : V3) (n : Int) (sg : Bool) (h0 : 0 ≤ x.v) (h1 : x.v < 4294967296) (hn : pow2 n = true) (ha : atR L x n n = none) : Calls Try.prog 25 #[.pointer (some ⟨m, 0, none⟩), x.enc, .int .i64 n, .bool sg] w fun e w' => e = .returned (.tuple #[V3.z.enc, .int .i64 3]) ∧ Below w.heap.size w w' := by
  have hu51 := Try.underlying51
  have hu60 := run_eqnil
  have hu61 := run_eqsome
  have hp : n = 1 ∨ n = 2 ∨ n = 4 := by simp only [pow2, Bool.or_eq_true, beq_iff_eq] at hn; omega
  have HP := Aside0.mk hp
  have HN := Aside0.mk hn
  have HA := Aside0.mk ha
  have H := Aside0.mk h
  clear hn ha h hp
  obtain ⟨k, v, b⟩ := x
  unfold V3.enc V3.z
  simp only at h0 h1 ⊢
  go_enter Try.func25, Try.ntmps25
  go_wp2_with (first | (go_at_call 51; refine (power_calls _ n).mono ?_; rintro e w' ⟨rfl, nk, rfl⟩; rw [HN.out]))
  go_at_call 52
  refine (at_calls (PM.below H.out (by (repeat (first | (with_reducible exact Below.refl _ _) | (with_reducible assumption) | with_reducible apply below_alloc | with_reducible apply pw_below_drewN | with_reducible apply below_drew1)))) ⟨k, v, b⟩ n n h0 h1 HP.out (by rcases HP.out with h | h | h <;> omega) (by rcases HP.out with h | h | h <;> omega)).mono ?_
  rintro e w' ⟨rfl, hB0⟩
  rw [HA.out]
  simp only [sliceR]
  have B8 := blk_below (blk_drewN (heap_at (w.alloc (.cells #[.int .i64 k, .int .u32 v, .int .i64 b] 51)) (.cells #[.int .i64 0, .int .u32 0, .int .i64 0] 51) (w.heap.size + 1) (by simp)) nk) hB0
  have hB := pm_chain (w := w) (by (repeat (first | (with_reducible exact Below.refl _ _) | (with_reducible assumption) | with_reducible apply below_alloc | with_reducible apply pw_below_drewN | with_reducible apply below_drew1))) hB0
  have BB := Aside0.mk B8
  obtain ⟨⟨hz0, hz1, hz2⟩, hf0, hf1, hf2⟩ := know3 B8
  clear hB0 B8
  go_wp2_with (fail)
  refine bodyPost_ret (results_ct rfl _ _ (w.heap.size + 1) 51 _ (0, 0) _ rfl (put3 BB.out _ _ _) Try.underlying51 rfl (by kernel_rfl)) rfl ?_
  exact ⟨rfl, by (repeat (first | (with_reducible exact Below.refl _ _) | (with_reducible assumption) | with_reducible apply below_alloc | with_reducible apply pw_below_drewN | with_reducible apply below_drew1 | (refine below_set ?_ (by omega))))⟩
theorem atR_some {L : List Rec} {x : V3} {n wd : Int} {r : Rec} (h : atR L x n wd = some r) : ofR L x = some r ∧ n ≤ r.cs.length - x.v ∧ x.v % wd = 0 ∧ wd ≤ r.al := by
  unfold atR at h
  obtain ⟨q, hq, h⟩ := Option.bind_eq_some_iff.mp h
  split at h
  · next hc => cases h; exact ⟨hq, hc⟩
  · cases h
/-- The bytes at a pointer, as a list. -/
def bytesAt (r : Rec) (x : V3) (n : Int) : List S66 := sub r.cs x.v.toNat n.toNat
set_option maxHeartbeats 4000000 in
set_option maxRecDepth 100000 in
theorem Load_ptr (h : PM w m mm last L) (x : V3) (n : Int) (sg : Bool) (h0 : 0 ≤ x.v) (h1 : x.v < 4294967296) (hn : pow2 n = true) {r : Rec} (ha : atR L x n n = some r) {q : V3} (hq : ptrF (bytesAt r x n) = some q) : Calls Try.prog 25 #[.pointer (some ⟨m, 0, none⟩), x.enc, .int .i64 n, .bool sg] w fun e w' => e = .returned (.tuple #[q.enc, .int .i64 0]) ∧ Below w.heap.size w w' := by
  have hu51 := Try.underlying51
  have hu60 := run_eqnil
  have hu61 := run_eqsome
  have hp : n = 1 ∨ n = 2 ∨ n = 4 := by simp only [pow2, Bool.or_eq_true, beq_iff_eq] at hn; omega
  have hr := (of_mem (atR_some ha).1).1
  have hle := (atR_some ha).2.1
  have hlen := h.len r hr
  have hk : (bytesAt r x n).length = n.toNat := sub_len (by omega)
  have hpf := pointer_f (bytesAt r x n) (by rw [hk]; omega)
  rw [hq] at hpf
  have R := Aside0.mk hr
  have HP := Aside0.mk hp
  have HN := Aside0.mk hn
  have HA := Aside0.mk ha
  have HK := Aside0.mk hk
  have HF := Aside0.mk hpf
  have HLE := Aside0.mk (And.intro hle hlen)
  have HQ := Aside0.mk hq
  have H := Aside0.mk h
  clear hn ha h hp hq hk hpf hle hlen
  obtain ⟨k, v, b⟩ := x
  obtain ⟨qk, qv, qb⟩ := q
  unfold V3.enc
  simp only at h0 h1 ⊢
  go_enter Try.func25, Try.ntmps25
  go_wp2_with (first | (go_at_call 51; refine (power_calls _ n).mono ?_; rintro e w' ⟨rfl, nk, rfl⟩; rw [HN.out]))
  go_at_call 52
  refine (at_calls (PM.below H.out (by (repeat (first | (with_reducible exact Below.refl _ _) | (with_reducible assumption) | with_reducible apply below_alloc | with_reducible apply pw_below_drewN | with_reducible apply below_drew1)))) ⟨k, v, b⟩ n n h0 h1 HP.out (by rcases HP.out with h | h | h <;> omega) (by rcases HP.out with h | h | h <;> omega)).mono ?_
  rintro e w1 ⟨rfl, hB0⟩
  rw [HA.out]
  simp only [sliceR]
  have B8 := blk_below (blk_drewN (heap_at (w.alloc (.cells #[.int .i64 k, .int .u32 v, .int .i64 b] 51)) (.cells #[.int .i64 0, .int .u32 0, .int .i64 0] 51) (w.heap.size + 1) (by simp)) nk) hB0
  have hB := pm_chain (w := w) (by (repeat (first | (with_reducible exact Below.refl _ _) | (with_reducible assumption) | with_reducible apply below_alloc | with_reducible apply pw_below_drewN | with_reducible apply below_drew1))) hB0
  have BB := Aside0.mk B8
  obtain ⟨⟨hz0, hz1, hz2⟩, hf0, hf1, hf2⟩ := know3 B8
  clear hB0 B8
  go_wp2_with (fail)
  go_at_call 66
  have hC := row_C ((PM.below H.out hB).row r R.out) (HLE.out.2.2) v.toNat n.toNat (by have := HLE.out.1; rcases HP.out with h | h | h <;> omega)
  have hcall := memory_pointer.calls 5 (some ⟨r.g, v.toNat * 4, none⟩) (r.cs.length - v.toNat) (bytesAt r ⟨k, v, b⟩ n) qk qv qb true w1 (by rw [HK.out]; exact hC) (by rw [HK.out]; have := HLE.out.1; rcases HP.out with h | h | h <;> omega) HF.out
  rw [HK.out] at hcall
  refine hcall.mono ?_
  clear hC hcall
  rintro e w2 ⟨rfl, hB2⟩
  have B8 := blk_below BB.out hB2
  obtain ⟨⟨hz0, hz1, hz2⟩, hf0, hf1, hf2⟩ := know3 B8
  replace BB := Aside0.mk B8
  have hlt : w.heap.size + 1 < w2.heap.size := blk_lt B8
  have hne : ¬ w.heap.size + 1 = w2.heap.size := by omega
  have hne' : ¬ w2.heap.size = w.heap.size + 1 := by omega
  replace hB := pm_chain (w := w) hB hB2
  clear hB2 B8
  go_wp2_with (fail)
  refine bodyPost_ret (results_ct rfl _ _ (w.heap.size + 1) 51 _ (0, 0) _ rfl (blk_alloc (put3 BB.out _ _ _) _) Try.underlying51 rfl (by kernel_rfl)) rfl ?_
  exact ⟨rfl, by (repeat (first | (with_reducible exact Below.refl _ _) | (with_reducible assumption) | with_reducible apply below_alloc | with_reducible apply pw_below_drewN | with_reducible apply below_drew1 | (refine below_set ?_ (by omega))))⟩
end Go.Proofs.Ythdnhfjodhjejaa.Ma
namespace Go.Proofs.Ythdnhfjodhjejaa.Ma
open Go.RowKit Go.Proofs.Ythdnhfjodhjejaa.PMe Go.Proofs.YthdnhfjodhjejaaW.PrintWords Go.Proofs.YthdnhfjodhjejaaW.PrintLast Go.Proofs.YthdnhfjodhjejaaW.PrintMore
set_option linter.unusedVariables false
set_option linter.unusedSimpArgs false
variable {w w' : World} {m mm : Nat} {last : Int} {L : List Rec}
def valF (l : List S66) (sg : Bool) : Int := ((word_Value.f 20 (l.map fun c => c.f1 % 256) sg).getD (0, 0)).1
theorem value_ok (l : List S66) (sg : Bool) (h : l.length = 1 ∨ l.length = 2 ∨ l.length = 4) : word_Value.f 20 (l.map fun c => c.f1 % 256) sg = some (valF l sg, 0) := by
  unfold valF
  rcases h with h | h | h
  · match l, h with
    | [a], _ => simp only [List.map_cons, List.map_nil, La.value1, Option.getD_some]
  · match l, h with
    | [a, b], _ => simp only [List.map_cons, List.map_nil, La.value2, Option.getD_some]
  · match l, h with
    | [a, b, c, d], _ => simp only [List.map_cons, List.map_nil, La.value4, Option.getD_some]
/-- What Load answers of bytes that are no pointer. -/
def numV (l : List S66) (sg : Bool) : V3 × Int := if l.all (fun c => c.f0 == 1) then (⟨1, valF l sg, 0⟩, 0) else (V3.z, 3)
def numAns (l : List S66) (sg : Bool) : Value := .tuple #[(numV l sg).1.enc, .int .i64 (numV l sg).2]
set_option maxHeartbeats 4000000 in
set_option maxRecDepth 100000 in
theorem Load_num (h : PM w m mm last L) (x : V3) (n : Int) (sg : Bool) (h0 : 0 ≤ x.v) (h1 : x.v < 4294967296) (hn : pow2 n = true) {r : Rec} (ha : atR L x n n = some r) (hq : ptrF (bytesAt r x n) = none) : Calls Try.prog 25 #[.pointer (some ⟨m, 0, none⟩), x.enc, .int .i64 n, .bool sg] w fun e w' => e = .returned (numAns (bytesAt r x n) sg) ∧ Below w.heap.size w w' := by
  have hu51 := Try.underlying51
  have hu60 := run_eqnil
  have hu61 := run_eqsome
  have hp : n = 1 ∨ n = 2 ∨ n = 4 := by simp only [pow2, Bool.or_eq_true, beq_iff_eq] at hn; omega
  have hr := (of_mem (atR_some ha).1).1
  have hle := (atR_some ha).2.1
  have hlen := h.len r hr
  have hk : (bytesAt r x n).length = n.toNat := sub_len (by omega)
  have hpf := pointer_f (bytesAt r x n) (by rw [hk]; omega)
  rw [hq] at hpf
  have R := Aside0.mk hr
  have HP := Aside0.mk hp
  have HN := Aside0.mk hn
  have HA := Aside0.mk ha
  have HK := Aside0.mk hk
  have HF := Aside0.mk hpf
  have HLE := Aside0.mk (And.intro hle hlen)
  have HQ := Aside0.mk hq
  have H := Aside0.mk h
  clear hn ha h hp hq hk hpf hle hlen
  obtain ⟨k, v, b⟩ := x
  unfold V3.enc
  simp only at h0 h1 ⊢
  go_enter Try.func25, Try.ntmps25
  go_wp2_with (first | (go_at_call 51; refine (power_calls _ n).mono ?_; rintro e w' ⟨rfl, nk, rfl⟩; rw [HN.out]))
  go_at_call 52
  refine (at_calls (PM.below H.out (by (repeat (first | (with_reducible exact Below.refl _ _) | (with_reducible assumption) | with_reducible apply below_alloc | with_reducible apply pw_below_drewN | with_reducible apply below_drew1)))) ⟨k, v, b⟩ n n h0 h1 HP.out (by rcases HP.out with h | h | h <;> omega) (by rcases HP.out with h | h | h <;> omega)).mono ?_
  rintro e w1 ⟨rfl, hB0⟩
  rw [HA.out]
  simp only [sliceR]
  have B8 := blk_below (blk_drewN (heap_at (w.alloc (.cells #[.int .i64 k, .int .u32 v, .int .i64 b] 51)) (.cells #[.int .i64 0, .int .u32 0, .int .i64 0] 51) (w.heap.size + 1) (by simp)) nk) hB0
  have hB := pm_chain (w := w) (by (repeat (first | (with_reducible exact Below.refl _ _) | (with_reducible assumption) | with_reducible apply below_alloc | with_reducible apply pw_below_drewN | with_reducible apply below_drew1))) hB0
  have BB := Aside0.mk B8
  obtain ⟨⟨hz0, hz1, hz2⟩, hf0, hf1, hf2⟩ := know3 B8
  clear hB0 B8
  go_wp2_with (fail)
  go_at_call 66
  have hC := row_C ((PM.below H.out hB).row r R.out) (HLE.out.2.2) v.toNat n.toNat (by have := HLE.out.1; rcases HP.out with h | h | h <;> omega)
  have hcall := memory_pointer.calls 5 (some ⟨r.g, v.toNat * 4, none⟩) (r.cs.length - v.toNat) (bytesAt r ⟨k, v, b⟩ n) 0 0 0 false w1 (by rw [HK.out]; exact hC) (by rw [HK.out]; have := HLE.out.1; rcases HP.out with h | h | h <;> omega) HF.out
  rw [HK.out] at hcall
  refine hcall.mono ?_
  clear hC hcall
  rintro e w2 ⟨rfl, hB2⟩
  have B8 := blk_below BB.out hB2
  obtain ⟨⟨hz0, hz1, hz2⟩, hf0, hf1, hf2⟩ := know3 B8
  replace BB := Aside0.mk B8
  have hlt : w.heap.size + 1 < w2.heap.size := blk_lt B8
  have hne : ¬ w.heap.size + 1 = w2.heap.size := by omega
  have hne' : ¬ w2.heap.size = w.heap.size + 1 := by omega
  replace hB := pm_chain (w := w) hB hB2
  clear hB2 B8
  go_wp2_with (fail)
  obtain ⟨N, rfl⟩ : ∃ N : Nat, n = N := ⟨n.toNat, by rcases HP.out with h | h | h <;> omega⟩
  have hmax : max (N : Int) 0 = N := by omega
  rw [hmax]
  clear hmax
  go_loopg [13, 39] N (fun kq v13 v39 w' => ∃ j : Nat, j + kq = N ∧ v39 = .int .i64 j ∧ Aside0 (((bytesAt r ⟨k, v, b⟩ N).take j).all (fun c => c.f0 == 1) = true) ∧ Aside0 (Kd.R (Kd.int .u8) 5 w' w.heap.size (fun q => q ≠ w.heap.size + 1) v13 (((bytesAt r ⟨k, v, b⟩ N).take j).map fun c => c.f1 % 256)) ∧ Aside0 (w'.heap[w.heap.size + 1]? = some (.cells #[.int .i64 0, .int .u32 0, .int .i64 0] 51 (0, 0))) ∧ Aside0 (Below w.heap.size w w'))
  case atStart => exact ⟨0, by omega, rfl, ⟨rfl⟩, ⟨Kd.R_nil _ _ _ _ _⟩, ⟨blk_alloc BB.out _⟩, ⟨by (repeat (first | (with_reducible exact Below.refl _ _) | (with_reducible assumption) | with_reducible apply below_alloc | with_reducible apply pw_below_drewN | with_reducible apply below_drew1))⟩⟩
  case round =>
    clear hz0 hz1 hz2 hf0 hf1 hf2 hB hlt hne hne' BB
    obtain ⟨j, hj, rfl, HALL, HO, B8, HBw⟩ := hrel
    have BB := B8.out
    obtain ⟨⟨hz0, hz1, hz2⟩, hf0, hf1, hf2⟩ := know3 BB
    have hlt : w.heap.size + 1 < wr.heap.size := blk_lt BB
    have hne : ¬ w.heap.size + 1 = wr.heap.size := by omega
    have hne' : ¬ wr.heap.size = w.heap.size + 1 := by omega
    clear BB
    by_cases hjN : j < N
    · obtain ⟨c, hc⟩ : ∃ c, (bytesAt r ⟨k, v, b⟩ N)[j]? = some c := ⟨_, List.getElem?_eq_getElem (by have := HK.out; simp at this; omega)⟩
      have hc' : r.cs[v.toNat + j]? = some c := by
        have := sub_get r.cs v.toNat N j hjN
        rw [← this]
        simpa [bytesAt] using hc
      have hg := (PM.below H.out HBw.out).row r R.out
      have e0 := row_cell hg (v.toNat + j) 0 (by omega)
      have e1 := row_cell hg (v.toNat + j) 1 (by omega)
      have e2 := row_cell hg (v.toNat + j) 2 (by omega)
      have e3 := row_cell hg (v.toNat + j) 3 (by omega)
      rw [hc'] at e0 e1 e2 e3
      simp only [Option.bind_some, encC, List.getElem?_cons_zero, List.getElem?_cons_succ, Nat.add_zero, Nat.add_mul] at e0 e1 e2 e3
      have HCC := Aside0.mk hc
      clear hg hc hc'
      by_cases hk1 : c.f0 = 1
      · have k1 : (c.f0 == 1) = true := beq_iff_eq.mpr hk1
        have k2 : (c.f0 != 1) = false := bne_eq_false_iff_eq.mpr hk1
        have HK1 := Aside0.mk hk1
        clear hk1
        have hlj : (((bytesAt r ⟨k, v, b⟩ N).take j).map fun c => c.f1 % 256).length ≤ 4 := by
          simp only [List.length_map, List.length_take]
          rcases HP.out with h | h | h <;> omega
        have HLJ := Aside0.mk hlj
        clear hlj
        go_wp2_with (first | ((with_reducible refine gate_builtin (b := .append) (xs := #[.tmp 47, .tmp 51]) rfl ?_); at_builtin; go_must (refine Kd.R_append (Kd.int .u8) (w0 := w) w.heap.size rfl (.tmp 47) (.tmp 51) 23 5 (.int .u8 0) 1 rfl Try.underlying23 info5 rfl (by decide) (by omega) u13 (((bytesAt r ⟨k, v, b⟩ N).take j).map fun c => c.f1 % 256) (c.f1 % 256) [.int .u8 (c.f1 % 256)] (fun q => q ≠ w.heap.size + 1) (fun _ => False) rfl ?aX ?aP (fun _ hk => hk.elim) ?aF ?aO ?aB ?aS ?aL ?_; (case aX => exact (show Value.slice (some ⟨wr.heap.size + 1, 0, none⟩) 1 1 = _ by simp)); (case aP => exact rfl); (case aB => exact (by have hB := HBw.out; (repeat (first | (with_reducible exact Below.refl _ _) | (with_reducible assumption) | with_reducible apply below_alloc | with_reducible apply pw_below_drewN | with_reducible apply below_drew1)))); (case aF => exact (fun q hq => by simp at hq; omega)); (case aO => exact (by (with_reducible repeat (first | apply Kd.R_alloc | apply Kd.R_drewN | apply Kd.R_drew)); exact HO.out)); (case aS => exact (below_size (by have hB := HBw.out; (repeat (first | (with_reducible exact Below.refl _ _) | (with_reducible assumption) | with_reducible apply below_alloc | with_reducible apply pw_below_drewN | with_reducible apply below_drew1))))); (case aL => have := HLJ.out; omega); intro v1_ W1 ho hb hg hat; have HO1 := Aside0.mk ho; have HB1 := Aside0.mk hb; have HG1 := Aside0.mk hg; have HAT := Aside0.mk hat; clear ho hb hg hat)))
        go_roundg (N - (j + 1))
        case measure => omega
        case rel =>
          have hw1 : wrap64 ((j : Int) + 1) = ((j + 1 : Nat) : Int) := by unfold wrap64; rcases HP.out with h | h | h <;> omega
          have htk : (bytesAt r ⟨k, v, b⟩ N).take (j + 1) = (bytesAt r ⟨k, v, b⟩ N).take j ++ [c] := by
            rw [List.take_add_one, HCC.out]; rfl
          refine ⟨j + 1, by omega, by rw [hw1], ⟨?_⟩, ⟨?_⟩, ⟨?_⟩, HB1⟩
          · rw [htk, List.all_append, HALL.out]; simp [HK1.out]
          · rw [htk, List.map_append]; exact HO1.out
          · exact (HG1.out.block (w.heap.size + 1) (by simp; omega) (fun e => HO.out.1 _ e.symm rfl)).trans (blk_alloc B8.out _)
      · have k1 : (c.f0 == 1) = false := beq_eq_false_iff_ne.mpr hk1
        have k2 : (c.f0 != 1) = true := bne_iff_ne.mpr hk1
        have hnum : numV (bytesAt r ⟨k, v, b⟩ N) sg = (V3.z, 3) := by
          unfold numV
          rw [if_neg]
          intro hall
          have := List.all_eq_true.1 hall c (List.mem_of_getElem? HCC.out)
          rw [k1] at this
          cases this
        have HN := Aside0.mk hnum
        clear hnum hk1
        go_wp2_with (fail)
        refine bodyPost_ret (results_ct rfl _ _ (w.heap.size + 1) 51 _ (0, 0) _ rfl (blk_alloc (put3 B8.out _ _ _) _) Try.underlying51 rfl (by kernel_rfl)) rfl ?_
        have hB := HBw.out
        exact ⟨by unfold numAns; rw [HN.out]; rfl, by (repeat (first | (with_reducible exact Below.refl _ _) | (with_reducible assumption) | with_reducible apply below_alloc | with_reducible apply pw_below_drewN | with_reducible apply below_drew1 | (refine below_set ?_ (by omega))))⟩
    · obtain rfl : j = N := by omega
      have htake : (bytesAt r ⟨k, v, b⟩ j).take j = bytesAt r ⟨k, v, b⟩ j := List.take_of_length_le (by rw [HK.out]; omega)
      have hall := HALL.out
      have ho := HO.out
      rw [htake] at hall ho
      have hnum : numV (bytesAt r ⟨k, v, b⟩ j) sg = (⟨1, valF (bytesAt r ⟨k, v, b⟩ j) sg, 0⟩, 0) := by
        unfold numV; rw [if_pos hall]
      obtain ⟨bs, hbs⟩ : ∃ bs, bs = (bytesAt r ⟨k, v, b⟩ j).map fun c => c.f1 % 256 := ⟨_, rfl⟩
      have hvo := value_ok (bytesAt r ⟨k, v, b⟩ j) sg (by rw [HK.out]; rcases HP.out with h | h | h <;> omega)
      rw [← hbs] at ho hvo
      clear hbs
      obtain ⟨A, cc, hs, hcc, hC⟩ := Kd.R_reads ho
      subst hs
      have hval := word_Value.calls 20 A cc bs sg (valF (bytesAt r ⟨k, v, b⟩ j) sg) 0 wr hC hcc hvo
      have HV := Aside0.mk hval
      have HNUM := Aside0.mk hnum
      clear hj hjN hlt
      clear htake hall ho hcc hC hval hnum hvo hz0 hz1 hz2 hf0 hf1 hf2 hne hne'
      go_wp2_with (first | (go_at_call 67; refine HV.out.mono ?_; rintro e W1 ⟨rfl, ⟨nd, rfl⟩⟩))
      go_at_call 45
      refine (memory_number.calls (valF (bytesAt r ⟨k, v, b⟩ j) sg) 1 (valF (bytesAt r ⟨k, v, b⟩ j) sg) 0 _ rfl).mono ?_
      rintro e W2 ⟨rfl, hB2⟩
      have B9 := blk_below (blk_drewN B8.out nd) hB2
      obtain ⟨⟨hz0, hz1, hz2⟩, hf0, hf1, hf2⟩ := know3 B9
      have BB := Aside0.mk B9
      have hB := pm_chain (w := w) (by have hB := HBw.out; (repeat (first | (with_reducible exact Below.refl _ _) | (with_reducible assumption) | with_reducible apply below_alloc | with_reducible apply pw_below_drewN | with_reducible apply below_drew1))) hB2
      clear hB2 B9
      go_wp2_with (fail)
      refine bodyPost_ret (results_ct rfl _ _ (w.heap.size + 1) 51 _ (0, 0) _ rfl (put3 BB.out _ _ _) Try.underlying51 rfl (by kernel_rfl)) rfl ?_
      exact ⟨by unfold numAns; rw [HNUM.out]; rfl, by (repeat (first | (with_reducible exact Below.refl _ _) | (with_reducible assumption) | with_reducible apply below_alloc | with_reducible apply pw_below_drewN | with_reducible apply below_drew1 | (refine below_set ?_ (by omega))))⟩
/-- What Load answers. -/
def loadF (L : List Rec) (x : V3) (n : Int) (sg : Bool) : V3 × Int :=
  if pow2 n then
    match atR L x n n with
    | none => (V3.z, 3)
    | some r => match ptrF (bytesAt r x n) with
      | some q => (q, 0)
      | none => numV (bytesAt r x n) sg
  else (V3.z, 3)
theorem Load_calls (h : PM w m mm last L) (x : V3) (n : Int) (sg : Bool) (h0 : 0 ≤ x.v) (h1 : x.v < 4294967296) : Calls Try.prog 25 #[.pointer (some ⟨m, 0, none⟩), x.enc, .int .i64 n, .bool sg] w fun e w' => e = .returned (.tuple #[(loadF L x n sg).1.enc, .int .i64 (loadF L x n sg).2]) ∧ Below w.heap.size w w' := by
  unfold loadF
  cases hp : pow2 n with
  | false => exact Load_pow w _ x n sg hp
  | true =>
    simp only [if_true]
    cases ha : atR L x n n with
    | none => exact Load_none h x n sg h0 h1 hp ha
    | some r =>
      simp only
      cases hq : ptrF (bytesAt r x n) with
      | some q => exact Load_ptr h x n sg h0 h1 hp ha hq
      | none => exact Load_num h x n sg h0 h1 hp ha hq
end Go.Proofs.Ythdnhfjodhjejaa.Ma
namespace Go.Proofs.Ythdnhfjodhjejaa.Ma
open Go.RowKit Go.Proofs.Ythdnhfjodhjejaa.PMe Go.Proofs.YthdnhfjodhjejaaW.PrintWords Go.Proofs.YthdnhfjodhjejaaW.PrintLast Go.Proofs.YthdnhfjodhjejaaW.PrintMore
set_option linter.unusedVariables false
set_option linter.unusedSimpArgs false
variable {w w' : World} {m mm : Nat} {last : Int} {L : List Rec}
theorem undef_calls (w : World) : Calls Try.prog 43 #[] w fun e w' => e = .returned (.tuple #[V3.z.enc, .int .i64 3]) ∧ Below w.heap.size w w' :=
  memory_undefined.calls 0 0 0 3 w rfl
/-- What moved answers of a pointer that is good. -/
def movedF (r : Rec) (x : V3) (d : Int) : V3 × Int := if x.v + d < 0 ∨ x.v + d > r.cs.length then (V3.z, 3) else (⟨x.k, x.v + d, x.b⟩, 0)
def ans (p : V3 × Int) : Value := .tuple #[p.1.enc, .int .i64 p.2]
set_option maxHeartbeats 4000000 in
set_option maxRecDepth 100000 in
theorem moved_calls (h : PM w m mm last L) (x : V3) (d : Int) (h0 : 0 ≤ x.v) (h1 : x.v < 4294967296) (hd0 : -4294967296 ≤ d) (hd1 : d ≤ 4294967296) {r : Rec} (ho : ofR L x = some r) : Calls Try.prog 82 #[.pointer (some ⟨m, 0, none⟩), x.enc, .int .i64 d] w fun e w' => e = .returned (ans (movedF r x d)) ∧ Below w.heap.size w w' := by
  have hu51 := Try.underlying51
  have hlen := h.len r (of_mem ho).1
  have HR := Aside0.mk (of_mem ho).1
  have HO := Aside0.mk ho
  have H := Aside0.mk h
  clear ho h
  generalize hans : ans (movedF r x d) = A
  have HA := Aside0.mk hans
  clear hans
  obtain ⟨k, v, b⟩ := x
  unfold V3.enc
  simp only at h0 h1 ⊢
  by_cases c1 : v + d < 0
  · go_enter Try.func82, Try.ntmps82
    go_wp2_with (fail)
    have B0 : ((w.alloc (.cells #[.int .i64 k, .int .u32 v, .int .i64 b] 51)).alloc (.cells #[.int .i64 0, .int .u32 0, .int .i64 0] 51)).heap[w.heap.size + 1]? = some (.cells #[.int .i64 0, .int .u32 0, .int .i64 0] 51 (0, 0)) := heap_at _ _ _ (by simp)
    go_at_call 43
    refine (undef_calls _).mono ?_
    rintro e w1 ⟨rfl, hB0⟩
    have B8 := blk_below B0 hB0
    have hB := pm_chain (w := w) (by (repeat (first | (with_reducible exact Below.refl _ _) | (with_reducible assumption) | with_reducible apply below_alloc | with_reducible apply pw_below_drewN | with_reducible apply below_drew1))) hB0
    obtain ⟨⟨hz0, hz1, hz2⟩, hf0, hf1, hf2⟩ := know3 B8
    have BB := Aside0.mk B8
    clear hB0 B8 B0
    simp only [V3.enc, V3.z]
    go_wp2_with (fail)
    refine bodyPost_ret (results_ct rfl _ _ (w.heap.size + 1) 51 _ (0, 0) _ rfl (put3 BB.out _ _ _) Try.underlying51 rfl (by kernel_rfl)) rfl ?_
    exact ⟨by rw [← HA.out]; unfold movedF; rw [if_pos (.inl (by omega))]; rfl, by (repeat (first | (with_reducible exact Below.refl _ _) | (with_reducible assumption) | with_reducible apply below_alloc | with_reducible apply pw_below_drewN | with_reducible apply below_drew1 | (refine below_set ?_ (by omega))))⟩
  · have c1b : decide (v + d < 0) = false := by simp; omega
    go_enter Try.func82, Try.ntmps82
    go_wp2_with (fail)
    have P0 : ((w.alloc (.cells #[.int .i64 k, .int .u32 v, .int .i64 b] 51)).alloc (.cells #[.int .i64 0, .int .u32 0, .int .i64 0] 51)).heap[w.heap.size]? = some (.cells #[.int .i64 k, .int .u32 v, .int .i64 b] 51 (0, 0)) := blk_alloc (heap_at _ _ _ rfl) _
    have B0 : ((w.alloc (.cells #[.int .i64 k, .int .u32 v, .int .i64 b] 51)).alloc (.cells #[.int .i64 0, .int .u32 0, .int .i64 0] 51)).heap[w.heap.size + 1]? = some (.cells #[.int .i64 0, .int .u32 0, .int .i64 0] 51 (0, 0)) := heap_at _ _ _ (by simp)
    go_at_call 40
    refine (of_calls (PM.below H.out (by (repeat (first | (with_reducible exact Below.refl _ _) | (with_reducible assumption) | with_reducible apply below_alloc | with_reducible apply pw_below_drewN | with_reducible apply below_drew1)))) ⟨k, v, b⟩ h0 h1).mono ?_
    rintro e w1 ⟨rfl, hB0⟩
    rw [HO.out]
    simp only [ptrR]
    have P8 := blk_below P0 hB0
    have B8 := blk_below B0 hB0
    have hB := pm_chain (w := w) (by (repeat (first | (with_reducible exact Below.refl _ _) | (with_reducible assumption) | with_reducible apply below_alloc | with_reducible apply pw_below_drewN | with_reducible apply below_drew1))) hB0
    obtain ⟨⟨hp0, hp1, hp2⟩, hq0, hq1, hq2⟩ := know3 P8
    obtain ⟨⟨hz0, hz1, hz2⟩, hf0, hf1, hf2⟩ := know3 B8
    obtain ⟨d0, _⟩ := (H.out.below hB).rcells HR.out
    have BB := Aside0.mk B8
    have PP := Aside0.mk P8
    clear hB0 B8 B0 P8 P0
    by_cases c2 : v + d > r.cs.length
    · have c2b : decide (v + d > (r.cs.length : Int)) = true := by simp; omega
      go_wp2_with (fail)
      go_at_call 43
      refine (undef_calls _).mono ?_
      rintro e w2 ⟨rfl, hB0⟩
      have B8 := blk_below BB.out hB0
      replace hB := pm_chain (w := w) hB hB0
      obtain ⟨⟨hz0, hz1, hz2⟩, hf0, hf1, hf2⟩ := know3 B8
      replace BB := Aside0.mk B8
      clear hB0 B8
      simp only [V3.enc, V3.z]
      go_wp2_with (fail)
      refine bodyPost_ret (results_ct rfl _ _ (w.heap.size + 1) 51 _ (0, 0) _ rfl (put3 BB.out _ _ _) Try.underlying51 rfl (by kernel_rfl)) rfl ?_
      exact ⟨by rw [← HA.out]; unfold movedF; rw [if_pos (.inr (by omega))]; rfl, by (repeat (first | (with_reducible exact Below.refl _ _) | (with_reducible assumption) | with_reducible apply below_alloc | with_reducible apply pw_below_drewN | with_reducible apply below_drew1 | (refine below_set ?_ (by omega))))⟩
    · have c2b : decide (v + d > (r.cs.length : Int)) = false := by simp; omega
      go_wp2_with (fail)
      refine bodyPost_ret (results_ct rfl _ _ (w.heap.size + 1) 51 _ (0, 0) _ rfl (put3 (blk_far BB.out (by simp) _) _ _ _) Try.underlying51 rfl (by kernel_rfl)) rfl ?_
      exact ⟨by rw [← HA.out]; unfold movedF; rw [if_neg (by simp only; omega)]; rfl, by (repeat (first | (with_reducible exact Below.refl _ _) | (with_reducible assumption) | with_reducible apply below_alloc | with_reducible apply pw_below_drewN | with_reducible apply below_drew1 | (refine below_set ?_ (by omega))))⟩
end Go.Proofs.Ythdnhfjodhjejaa.Ma
