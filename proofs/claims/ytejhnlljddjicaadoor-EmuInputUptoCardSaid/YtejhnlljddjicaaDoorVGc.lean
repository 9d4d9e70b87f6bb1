/- What an operation makes of two numbers is a number of 32 bits. No condition beyond those each theorem names. And more of the kind: 5 texts in one. -/
import Derived.Test.YtejhnlljddjicaaDoorVGb
import Derived.Test.YtejhnlljddjicaaDoorVPEmx2
namespace Go.Proofs.YtejhnlljddjicaaDoor.Ma
open Go.RowKit Go.Proofs.YtejhnlljddjicaaDoor.PEm Go.Proofs.YtejhnlljddjicaaDoorW.PrintWords Go.Proofs.YtejhnlljddjicaaDoor.La
set_option linter.unusedVariables false
theorem back_range (A : BitVec 32) : 0 ≤ back A ∧ back A < 4294967296 := by
  unfold back
  have := A.isLt
  omega
theorem bits_range (op : BinOp) (a b : Int) (h : op = .and ∨ op = .or ∨ op = .xor) : 0 ≤ bits op .u32 a b ∧ bits op .u32 a b < 4294967296 := by
  rcases h with rfl | rfl | rfl
  · rw [and_bv]; exact back_range _
  · rw [or_bv]; exact back_range _
  · rw [xor_bv]; exact back_range _
theorem flag_range (c : Bool) : (0 : Int) ≤ (bif c then 1 else 0) ∧ (bif c then 1 else 0 : Int) < 4294967296 := by cases c <;> decide
theorem bin_in (op a b : Int) (ha0 : 0 ≤ a) (ha1 : a < 4294967296) (hb0 : 0 ≤ b) (hb1 : b < 4294967296) : 0 ≤ (binP op a b).1 ∧ (binP op a b).1 < 4294967296 := by
  have hm1 : b % 32 < 32 := by omega
  have hand := bits_range .and a b (.inl rfl)
  have hor := bits_range .or a b (.inr (.inl rfl))
  have hxor := bits_range .xor a b (.inr (.inr rfl))
  unfold binP
  by_cases e : op = 1 ∨ op = 2 ∨ op = 3 ∨ op = 4 ∨ op = 5 ∨ op = 6 ∨ op = 7 ∨ op = 8 ∨ op = 9 ∨ op = 10 ∨ op = 11 ∨ op = 12 ∨ op = 13 ∨ op = 14 ∨ op = 15 ∨ op = 16 ∨ op = 17 ∨ op = 18 ∨ op = 19
  · rcases e with rfl | rfl | rfl | rfl | rfl | rfl | rfl | rfl | rfl | rfl | rfl | rfl | rfl | rfl | rfl | rfl | rfl | rfl | rfl
    · rw [bin_add 29]; simp only [Option.getD_some]; omega
    · rw [bin_sub 29]; simp only [Option.getD_some]; omega
    · rw [bin_mul 29]; simp only [Option.getD_some]; omega
    · by_cases hb : b = 0
      · subst hb; simp [word_Bin.f, word_Bin.j0]
      · simp [word_Bin.f, word_Bin.j0, word_divided.f, hb]
        split
        · simp
        · simp only [Option.bind_some, Option.getD_some]; omega
    · by_cases hb : b = 0
      · subst hb; simp [word_Bin.f, word_Bin.j0]
      · rw [bin_divu 29 a b hb]; simp only [Option.getD_some]; omega
    · by_cases hb : b = 0
      · subst hb; simp [word_Bin.f, word_Bin.j0]
      · simp [word_Bin.f, word_Bin.j0, word_divided.f, hb]
        split
        · simp
        · simp only [Option.bind_some, Option.getD_some]; omega
    · by_cases hb : b = 0
      · subst hb; simp [word_Bin.f, word_Bin.j0]
      · simp [word_Bin.f, word_Bin.j0, word_divided.f, hb]
        rw [Int.tmod_eq_emod_of_nonneg ha0]
        have h1 := Int.emod_nonneg a hb
        have h2 := Int.emod_lt_of_pos a (show 0 < b by omega)
        omega
    · rw [bin_and 29]; simp only [Option.getD_some]; exact hand
    · rw [bin_or 29]; simp only [Option.getD_some]; exact hor
    · rw [bin_xor 29]; simp only [Option.getD_some]; exact hxor
    · rw [bin_shl 29 a b hb0 hb1]; simp only [Option.getD_some]; omega
    · rw [bin_shrs 29 a b hb0 hb1]; simp only [Option.getD_some]; omega
    · rw [bin_shru 29 a b hb0 hb1]; simp only [Option.getD_some]
      have hp : (0 : Int) < 2 ^ (b % 32).toNat := Int.pow_pos (by decide)
      exact ⟨Int.ediv_nonneg ha0 (by omega), Int.lt_of_le_of_lt (Int.ediv_le_self _ ha0) ha1⟩
    all_goals (simp [word_Bin.f, word_Bin.j0, flagv])
    all_goals (first | exact flag_range _ | omega | ((repeat' split) <;> omega) | trace_state)
  · obtain ⟨_, ⟨r, ok⟩, hf⟩ := bin_eq op a b ha0 ha1 hb0 hb1
    have n : op ≠ 1 ∧ op ≠ 2 ∧ op ≠ 3 ∧ op ≠ 4 ∧ op ≠ 5 ∧ op ≠ 6 ∧ op ≠ 7 ∧ op ≠ 8 ∧ op ≠ 9 ∧ op ≠ 10 ∧ op ≠ 11 ∧ op ≠ 12 ∧ op ≠ 13 ∧ op ≠ 14 ∧ op ≠ 15 ∧ op ≠ 16 ∧ op ≠ 17 ∧ op ≠ 18 ∧ op ≠ 19 := by omega
    obtain ⟨n1, n2, n3, n4, n5, n6, n7, n8, n9, n10, n11, n12, n13, n14, n15, n16, n17, n18, n19⟩ := n
    simp [word_Bin.f, word_Bin.j0, n1, n2, n3, n4, n5, n6, n7, n8, n9, n10, n11, n12, n13, n14, n15, n16, n17, n18, n19]
end Go.Proofs.YtejhnlljddjicaaDoor.Ma
namespace Go.Proofs.YtejhnlljddjicaaDoor.Ma
open Go.RowKit Go.Proofs.YtejhnlljddjicaaDoor.PEm Go.Proofs.YtejhnlljddjicaaDoorW.PrintWords Go.Proofs.YtejhnlljddjicaaDoorW.PrintLast Go.Proofs.YtejhnlljddjicaaDoorW.PrintMore Go.Proofs.YtejhnlljddjicaaDoor.La
set_option linter.unusedVariables false
set_option linter.unusedSimpArgs false
variable {w w' : World} {c pg : Nat} {ps ps' : Pages} {S S' : Cpu} {inp out inp' out' : List Int}
/-- The memory with n bytes of a number put into it. -/
def putF (f : Nat → Int) (p n : Nat) (v : Int) (a : Nat) : Int := if p ≤ a ∧ a < p + n then v / 2 ^ (8 * (a - p)) % 256 else f a
theorem putF_zero (f : Nat → Int) (p : Nat) (v : Int) (a : Nat) : putF f p 0 v a = f a := by unfold putF; rw [if_neg (by omega)]
theorem putF_next (f : Nat → Int) (p n : Nat) (v : Int) (a : Nat) : putF f p (n + 1) v a = if a = p + n then v / 2 ^ (8 * n) % 256 else putF f p n v a := by
  unfold putF
  by_cases h : a = p + n
  · subst h; rw [if_pos rfl, if_pos (by omega), show p + n - p = n by omega]
  · rw [if_neg h]
    by_cases h2 : p ≤ a ∧ a < p + n
    · rw [if_pos h2, if_pos (by omega)]
    · rw [if_neg h2, if_neg (by omega)]
theorem stay_cell {W : World} {g i k j : Nat} {v u : Value} (hk : W.cell? ⟨g, i, none⟩ = some v) (hne : ¬ k = g) : (W.setCell ⟨k, j, none⟩ u).cell? ⟨g, i, none⟩ = some v := by
  rw [World.cell?_setCell_far _ _ _ _ (show (⟨k, j, none⟩ : Addr).block ≠ (⟨g, i, none⟩ : Addr).block from hne)]
  exact hk
theorem byte_cell {g : Nat} {bs : List Int} (hg : w.heap[g]? = some (.cells (byteRow bs) 5 (0, 0))) (k : Nat) (hk : k < bs.length) : w.cell? ⟨g, k, none⟩ = some (.int .u8 ((bs[k]?).getD 0)) := by
  rw [blk_cell hg]
  simp [byteRow, List.getElem?_eq_getElem hk]
theorem pg_ne (h : EM w c pg ps S inp out) {k g : Nat} {bs : List Int} (hk : ps[k]? = some (some (g, bs))) (e : g = c) : False := by
  have hn := h.nodup
  unfold foot at hn
  refine (List.nodup_cons.1 hn).1 ?_
  simp only [List.mem_cons, List.mem_append, blocks, List.mem_filterMap]
  exact .inr (.inl ⟨_, List.mem_of_getElem? hk, by simp [e]⟩)
theorem pg_away {o : Obj} {g5 : Nat} (h : Did w w' c pg ps S ps' S' inp' out') (h5 : w.heap[g5]? = some o) (hn : g5 ∉ foot c pg ps S) {k g : Nat} {bs : List Int} (hk : ps'[k]? = some (some (g, bs))) (e : g = g5) : False := by
  have hm : g ∈ foot c pg ps' S' := by
    simp only [foot, List.mem_cons, List.mem_append, blocks, List.mem_filterMap]
    exact .inr (.inr (.inl ⟨_, List.mem_of_getElem? hk, rfl⟩))
  subst e
  exact (h.new _ hm).elim hn (fun h2 => absurd (lt_of_at h5) (by omega))
theorem may_zero2 {code i n : Int} (h : mayF code i n true = 0) : i % n = 0 ∧ 4096 ≤ i ∧ i ≤ 8388608 - n := by
  unfold mayF at h
  split at h
  · omega
  · split at h
    · omega
    · simp at *; omega
set_option maxHeartbeats 4000000 in
set_option maxRecDepth 100000 in
theorem store_no (h : EM w c pg ps S inp out) (x : I5) (n : Int) (hn : n = 1 ∨ n = 2 ∨ n = 4) (ha : x.a < 16) (hb : x.b < 16) (hi : -8388608 ≤ x.imm ∧ x.imm ≤ 16777216) (c0 : mayF S.code (addrF S x) n true ≠ 0) :
    Calls Tryd.prog 65 #[.pointer (some ⟨c, 0, none⟩), x.enc, .int .i64 n] w fun e w' => e = .returned (errT (mayF S.code (addrF S x) n true)) ∧ Did w w' c pg ps S ps S inp out := by
  obtain ⟨op, a, b, d, imm⟩ := x
  unfold I5.enc
  simp only at ha hb hi ⊢
  obtain ⟨v, hv⟩ : ∃ v, S.regs[b]? = some v := ⟨_, List.getElem?_eq_getElem (by rw [h.nreg]; exact hb)⟩
  have hva := h.regIn v (List.mem_of_getElem? hv)
  obtain ⟨u, hu⟩ : ∃ u, S.regs[a]? = some u := ⟨_, List.getElem?_eq_getElem (by rw [h.nreg]; exact ha)⟩
  have hua := h.regIn u (List.mem_of_getElem? hu)
  have hA : addrF S ⟨op, a, b, d, imm⟩ = (v + imm % 4294967296) % 4294967296 := by unfold addrF; simp only; rw [hv]; rfl
  have hUg : (S.regs[a]?).getD 0 = u := by rw [hu]; rfl
  obtain ⟨at_, hat⟩ : ∃ q, q = (v + imm % 4294967296) % 4294967296 := ⟨_, rfl⟩
  rw [hA, ← hat] at c0
  rw [hA, ← hat]
  have C0 := Aside0.mk c0
  have HAT := Aside0.mk hat
  have H := Aside0.mk h
  have HB := Aside0.mk (h.below (below_alloc (Below.refl _ _) (.cells #[.int .i64 op, .int .i64 a, .int .i64 b, .int .i64 d, .int .i64 imm] 67)))
  have kb := HB.out.kr hv
  have ha0 : (a : Int) < 16 := by omega
  have hb0 : (b : Int) < 16 := by omega
  have hw0 : IntKind.u32.wrap (v + imm % 4294967296) = at_ := by rw [hat, IntKind.wrap_u32]
  have hw1 : IntKind.i64.wrap at_ = at_ := IntWalk.i64_in _ (by omega)
  obtain ⟨i0, i1⟩ := hi
  obtain ⟨v0, v1⟩ := hva
  have hr := Aside0.mk (show 0 ≤ at_ ∧ at_ < 4294967296 by omega)
  have HN := Aside0.mk hn
  have HU := Aside0.mk hu
  have HUA := Aside0.mk hua
  clear h hv hu hA hat hn hUg hua c0
  go_enter Tryd.func65, Tryd.ntmps65
  go_upto_region 1 with (fail)
  have R5 := Aside0.mk (show (w.alloc (.cells #[.int .i64 op, .int .i64 a, .int .i64 b, .int .i64 d, .int .i64 imm] 67)).heap[w.heap.size]? = some (.cells #[.int .i64 op, .int .i64 a, .int .i64 b, .int .i64 d, .int .i64 imm] 67 (0, 0)) from heap_at _ _ _ rfl)
  have B0 := Aside0.mk (show Below w.heap.size w (w.alloc (.cells #[.int .i64 op, .int .i64 a, .int .i64 b, .int .i64 d, .int .i64 imm] 67)) by (repeat (first | (with_reducible exact Below.refl _ _) | (with_reducible assumption) | with_reducible apply below_alloc | with_reducible apply pw_below_drewN | with_reducible apply below_drew1)))
  have NG := Aside0.mk (show w.heap.size ∉ foot c pg ps S from fun hh => absurd (H.out.foot_lt _ hh) (by omega))
  generalize (w.alloc (.cells #[.int .i64 op, .int .i64 a, .int .i64 b, .int .i64 d, .int .i64 imm] 67)) = W0 at HB kb R5 B0 ⊢
  generalize w.heap.size = g5 at R5 NG ⊢
  have b1 := (blk_cell R5.out 1).trans rfl
  have b2 := (blk_cell R5.out 2).trans rfl
  have b4 := (blk_cell R5.out 4).trans rfl
  refine wp_region_still_tail 13 (by kernel_rfl) (by kernel_rfl) ?_
  simp only [List.take_succ_cons, List.take_zero, List.drop_succ_cons, List.drop_zero]
  repeat (with_reducible refine wpStill_step (fun K hK => ?_); go_simp; with_reducible refine hK _ ?_; clear hK K)
  with_reducible refine wpStill_step (fun K hK => ?_)
  go_simp
  refine ⟨_, Of_still _ _, hK _ ?_⟩
  clear hK K
  repeat (with_reducible refine wpStill_step (fun K hK => ?_); go_simp; with_reducible refine hK _ ?_; clear hK K)
  with_reducible refine wpStill_nil ?_
  change wpList _ _ _ _ _ W0.drew
  clear b1 b2 b4 kb
  have D0 := Aside0.mk (Below.refl W0.heap.size W0).drew
  have EW := Aside0.mk (HB.out.below D0.out)
  have R6 := Aside0.mk (blk_below R5.out D0.out)
  go_wp2_with (fail)
  go_at_call 83
  refine (may_calls EW.out at_ n true hr.out HN.out).mono ?_
  rintro e w' ⟨rfl, rfl⟩
  obtain ⟨r, hr2⟩ : ∃ r, r = mayF S.code at_ n true := ⟨_, rfl⟩
  rw [show errT (mayF S.code at_ n true) = .iface 77 (.agg #[.int .i64 r]) by unfold errT; rw [if_neg C0.out, hr2]]
  have HR2 := Aside0.mk (show errT (mayF S.code at_ n true) = .iface 77 (.agg #[.int .i64 r]) by unfold errT; rw [if_neg C0.out, hr2])
  clear hr2
  obtain ⟨W1, hW1⟩ : ∃ x, x = W0.drew := ⟨_, rfl⟩
  rw [← hW1] at EW R6 D0 ⊢
  clear hW1
  go_upto_region 3 with (fail)
  go_wp2_with (fail)
  go_loopg [9] 0 (fun kq v9 wr => v9 = .int .i64 0 ∧ Aside0 (Below W1.heap.size W1 wr))
  case atStart => exact ⟨rfl, ⟨Below.refl _ _⟩⟩
  case round =>
    obtain ⟨rfl, HX⟩ := hrel
    go_wp2_with (fail)
    go_ret
    exact ⟨HR2.out ▸ rfl, Did.same H.out (pm_chain B0.out (pm_chain D0.out HX.out))⟩
set_option maxHeartbeats 4000000 in
set_option maxRecDepth 100000 in
theorem store_yes (h : EM w c pg ps S inp out) (x : I5) (n : Int) (hn : n = 1 ∨ n = 2 ∨ n = 4) (ha : x.a < 16) (hb : x.b < 16) (hi : -8388608 ≤ x.imm ∧ x.imm ≤ 16777216) (c0 : mayF S.code (addrF S x) n true = 0) :
    Calls Tryd.prog 65 #[.pointer (some ⟨c, 0, none⟩), x.enc, .int .i64 n] w fun e w' => e = .returned .nilIface ∧ ∃ ps', Did w w' c pg ps S ps' S inp out ∧ ∀ i, byteAt ps' i = putF (byteAt ps) (addrF S x).toNat n.toNat ((S.regs[x.a]?).getD 0) i := by
  obtain ⟨op, a, b, d, imm⟩ := x
  unfold I5.enc
  simp only at ha hb hi ⊢
  obtain ⟨v, hv⟩ : ∃ v, S.regs[b]? = some v := ⟨_, List.getElem?_eq_getElem (by rw [h.nreg]; exact hb)⟩
  have hva := h.regIn v (List.mem_of_getElem? hv)
  obtain ⟨u, hu⟩ : ∃ u, S.regs[a]? = some u := ⟨_, List.getElem?_eq_getElem (by rw [h.nreg]; exact ha)⟩
  have hua := h.regIn u (List.mem_of_getElem? hu)
  have hA : addrF S ⟨op, a, b, d, imm⟩ = (v + imm % 4294967296) % 4294967296 := by unfold addrF; simp only; rw [hv]; rfl
  have hUg : (S.regs[a]?).getD 0 = u := by rw [hu]; rfl
  obtain ⟨at_, hat⟩ : ∃ q, q = (v + imm % 4294967296) % 4294967296 := ⟨_, rfl⟩
  rw [hA, ← hat] at c0
  rw [hA, ← hat, hUg]
  have C0 := Aside0.mk c0
  have HAT := Aside0.mk hat
  have H := Aside0.mk h
  have HB := Aside0.mk (h.below (below_alloc (Below.refl _ _) (.cells #[.int .i64 op, .int .i64 a, .int .i64 b, .int .i64 d, .int .i64 imm] 67)))
  have kb := HB.out.kr hv
  have ha0 : (a : Int) < 16 := by omega
  have hb0 : (b : Int) < 16 := by omega
  have hw0 : IntKind.u32.wrap (v + imm % 4294967296) = at_ := by rw [hat, IntKind.wrap_u32]
  have hw1 : IntKind.i64.wrap at_ = at_ := IntWalk.i64_in _ (by omega)
  obtain ⟨i0, i1⟩ := hi
  obtain ⟨v0, v1⟩ := hva
  have hr := Aside0.mk (show 0 ≤ at_ ∧ at_ < 4294967296 by omega)
  have HN := Aside0.mk hn
  have HU := Aside0.mk hu
  have HUA := Aside0.mk hua
  clear h hv hu hA hat hn hUg hua c0
  go_enter Tryd.func65, Tryd.ntmps65
  go_upto_region 1 with (fail)
  have R5 := Aside0.mk (show (w.alloc (.cells #[.int .i64 op, .int .i64 a, .int .i64 b, .int .i64 d, .int .i64 imm] 67)).heap[w.heap.size]? = some (.cells #[.int .i64 op, .int .i64 a, .int .i64 b, .int .i64 d, .int .i64 imm] 67 (0, 0)) from heap_at _ _ _ rfl)
  have B0 := Aside0.mk (show Below w.heap.size w (w.alloc (.cells #[.int .i64 op, .int .i64 a, .int .i64 b, .int .i64 d, .int .i64 imm] 67)) by (repeat (first | (with_reducible exact Below.refl _ _) | (with_reducible assumption) | with_reducible apply below_alloc | with_reducible apply pw_below_drewN | with_reducible apply below_drew1)))
  have NG := Aside0.mk (show w.heap.size ∉ foot c pg ps S from fun hh => absurd (H.out.foot_lt _ hh) (by omega))
  generalize (w.alloc (.cells #[.int .i64 op, .int .i64 a, .int .i64 b, .int .i64 d, .int .i64 imm] 67)) = W0 at HB kb R5 B0 ⊢
  generalize w.heap.size = g5 at R5 NG ⊢
  have b1 := (blk_cell R5.out 1).trans rfl
  have b2 := (blk_cell R5.out 2).trans rfl
  have b4 := (blk_cell R5.out 4).trans rfl
  refine wp_region_still_tail 13 (by kernel_rfl) (by kernel_rfl) ?_
  simp only [List.take_succ_cons, List.take_zero, List.drop_succ_cons, List.drop_zero]
  repeat (with_reducible refine wpStill_step (fun K hK => ?_); go_simp; with_reducible refine hK _ ?_; clear hK K)
  with_reducible refine wpStill_step (fun K hK => ?_)
  go_simp
  refine ⟨_, Of_still _ _, hK _ ?_⟩
  clear hK K
  repeat (with_reducible refine wpStill_step (fun K hK => ?_); go_simp; with_reducible refine hK _ ?_; clear hK K)
  with_reducible refine wpStill_nil ?_
  change wpList _ _ _ _ _ W0.drew
  clear b1 b2 b4 kb
  have D0 := Aside0.mk (Below.refl W0.heap.size W0).drew
  have EW := Aside0.mk (HB.out.below D0.out)
  have R6 := Aside0.mk (blk_below R5.out D0.out)
  go_wp2_with (fail)
  go_at_call 83
  refine (may_calls EW.out at_ n true hr.out HN.out).mono ?_
  rintro e w' ⟨rfl, rfl⟩
  have c0 := C0.out
  obtain ⟨m0, m1, m2⟩ := may_zero2 c0
  have hpg : at_ % 4096 + n ≤ 4096 := by rcases HN.out with rfl | rfl | rfl <;> omega
  have hat2 : at_ < 8388608 := by rcases HN.out with rfl | rfl | rfl <;> omega
  have hat3 : 0 ≤ at_ := hr.out.1
  rw [c0, show errT 0 = .nilIface from rfl]
  have HM := Aside0.mk (And.intro hat3 (And.intro hat2 hpg))
  have NGC : ¬ c = g5 := fun e => NG.out (by rw [← e]; simp [foot])
  clear m0 m1 m2 hpg hat2 hat3 c0
  obtain ⟨W1, hW1⟩ : ∃ x, x = W0.drew := ⟨_, rfl⟩
  rw [← hW1] at EW R6 D0 ⊢
  clear hW1
  obtain ⟨N, hN⟩ : ∃ N : Nat, (N : Int) = n := ⟨n.toNat, by rcases HN.out with rfl | rfl | rfl <;> rfl⟩
  have HNT := Aside0.mk (show n.toNat = N by omega)
  have HN4 := Aside0.mk (show N ≤ 4 by rcases HN.out with rfl | rfl | rfl <;> omega)
  subst hN
  go_upto_region 3 with (fail)
  go_wp2_with (fail)
  go_loopg [9] N (fun kq v9 wr => ∃ (j : Nat) (psj : Pages), j + kq = N ∧ v9 = .int .i64 j ∧ Aside0 (Did W1 wr c pg ps S psj S inp out) ∧ Aside0 (∀ i, byteAt psj i = putF (byteAt ps) at_.toNat j u i))
  case atStart => exact ⟨0, ps, by omega, rfl, ⟨Did.same EW.out (Below.refl _ _)⟩, ⟨fun i => (putF_zero _ _ _ _).symm⟩⟩
  case round =>
    obtain ⟨j, psj, hj, rfl, HD, HP⟩ := hrel
    by_cases hlt : j < N
    · have hj4 : j < 4 := by have := HN4.out; omega
      have hj5 : (j : Int) < (N : Int) := by omega
      have HJ := Aside0.mk hj
      clear hj
      have HR6 := Aside0.mk (HD.out.ext.at R6.out NG.out)
      have b1 := (blk_cell HR6.out 1).trans rfl
      have kx := HD.out.em.kr HU.out
      have NG2 := Aside0.mk (show g5 ∉ foot c pg psj S from fun hh => (HD.out.new _ hh).elim NG.out (fun h' => absurd (lt_of_at R6.out) (by omega)))
      have hat3 : 0 ≤ at_ := HM.out.1
      have hm0 : 0 ≤ at_ % 4096 := by omega
      have f0 : at_.tmod 4096 = at_ % 4096 := Int.tmod_eq_emod_of_nonneg hat3
      have f1 : IntKind.i64.wrap (at_ % 4096 + j) = at_ % 4096 + j := IntWalk.i64_in _ (by omega)
      have f2 : IntKind.i64.wrap (8 * (j : Int)) = 8 * j := IntWalk.i64_in _ (by omega)
      have f3 : at_ % 4096 + j < 4096 := by have := HM.out.2.2; omega
      have f4 : 0 ≤ at_ % 4096 + (j : Int) := by omega
      have f5 : 0 ≤ 8 * (j : Int) := by omega
      have f6 : (at_ % 4096 + (j : Int)).toNat = at_.toNat % 4096 + j := by omega
      go_upto_region 6 with (fail)
      go_region_held3 (fun w' => w'.cell? ⟨g5, 1, none⟩ = some (.int .i64 a) ∧ w'.cell? ⟨c, 3 + a, none⟩ = some (.int .u32 u)) (first | exact ⟨b1, kx⟩ | exact ⟨bx, kz⟩ | exact ⟨stay_cell bx hg5, stay_cell kz hgc⟩ | (refine ⟨pw_cell_below ?_ b1, pw_cell_below ?_ kx⟩ <;> ((repeat (first | (with_reducible exact Below.refl _ _) | (with_reducible assumption) | with_reducible apply below_alloc | with_reducible apply pw_below_drewN | with_reducible apply below_drew1)); done))) ((go_at_call 35; refine (page_calls (HD.out.em.below (by first | assumption | exact Below.refl _ _ | (repeat (first | (with_reducible exact Below.refl _ _) | (with_reducible assumption) | with_reducible apply below_alloc | with_reducible apply pw_below_drewN | with_reducible apply below_drew1)))) at_ HM.out.1 HM.out.2.1).mono ?_; rintro e WX ⟨gx, bs, ps2, rfl, hD, hk, hM⟩; have hDX := Aside0.mk (Did.trans (Did.same HD.out.em (by first | assumption | exact Below.refl _ _ | (repeat (first | (with_reducible exact Below.refl _ _) | (with_reducible assumption) | with_reducible apply below_alloc | with_reducible apply pw_below_drewN | with_reducible apply below_drew1)))) hD); have bx := (blk_cell (hDX.out.ext.at HR6.out NG2.out) 1).trans rfl; have kz := hDX.out.em.kr HU.out;  have hmx := Aside0.mk hM; have hkx := Aside0.mk hk; have hgg := (hDX.out.em.page gx bs (List.mem_of_getElem? hk)); have fx := blk_frozen hgg.1 (at_.toNat % 4096 + j); have kx2 := byte_cell hgg.1 (at_.toNat % 4096 + j) (by rw [hgg.2.1]; have := HM.out.2.2; omega); have hg5 : ¬ gx = g5 := fun e => pg_away hDX.out HR6.out NG2.out hkx.out e; have hgc : ¬ gx = c := fun e => pg_ne hDX.out.em hkx.out e; have hgx := Aside0.mk hgg; clear hD hk hM hgg))
      have HLT := Aside0.mk hlt
      clear f0 f1 f2 f3 f4 f5 f6 hlt hj5
      go_wp2_with (fail)
      go_roundg (N - (j + 1))
      case measure => have := HJ.out; have := HLT.out; omega
      case rel =>
        have hlt := HLT.out
        have hm3 := HM.out.2.2
        have hub := HUA.out
        have hwr : IntKind.u8.wrap (u / 2 ^ (8 * (j : Int)).toNat) = u / 2 ^ (8 * j) % 256 := by rw [IntKind.wrap_u8, show (8 * (j : Int)).toNat = 8 * j by omega]
        have hst := hDX.out.em.setbyte hkx.out (at_.toNat % 4096 + j) (by omega) (u / 2 ^ (8 * j) % 256) (by omega)
        have hbs := fun i => byte_set hkx.out hgx.out.2.1 (at_.toNat % 4096 + j) (by omega) (u / 2 ^ (8 * j) % 256) i
        refine ⟨j + 1, _, by omega, by simp, ⟨HD.out.trans (hDX.out.trans hst)⟩, ⟨fun i => ?_⟩⟩
        rw [putF_next, ← HP.out, ← hmx.out i]
        rw [hbs, show (at_ / 4096).toNat * 4096 + (at_.toNat % 4096 + j) = at_.toNat + j by have := HM.out.1; omega]
    · have hj2 : j = N := by omega
      subst hj2
      clear hlt hj
      go_wp2_with (fail)
      go_ret
      exact ⟨rfl, psj, Did.pre (pm_chain B0.out D0.out) HD.out, fun i => by rw [HNT.out]; exact HP.out i⟩
end Go.Proofs.YtejhnlljddjicaaDoor.Ma
namespace Go.Proofs.YtejhnlljddjicaaDoor.Ma
open Go.RowKit Go.Proofs.YtejhnlljddjicaaDoor.PEm Go.Proofs.YtejhnlljddjicaaDoorW.PrintWords Go.Proofs.YtejhnlljddjicaaDoorW.PrintLast Go.Proofs.YtejhnlljddjicaaDoorW.PrintMore Go.Proofs.YtejhnlljddjicaaDoor.La
set_option linter.unusedVariables false
set_option linter.unusedSimpArgs false
variable {w w' : World} {c pg : Nat} {ps ps' : Pages} {S S' : Cpu} {inp out inp' out' : List Int}
/-- How many bytes an operation moves; whether it loads; whether it keeps the sign. -/
def accN (op : Int) : Int := if op = 80 ∨ op = 81 ∨ op = 88 then 1 else if op = 82 ∨ op = 83 ∨ op = 89 then 2 else 4
def accL (op : Int) : Bool := decide (op = 80 ∨ op = 81 ∨ op = 82 ∨ op = 83 ∨ op = 84)
def accS (op : Int) : Bool := decide (op = 80 ∨ op = 82)
/-- What access answers, and what it makes of the machine and of the memory. -/
def accE (S : Cpu) (x : I5) : Int := mayF S.code (addrF S x) (accN x.op) (!accL x.op)
def accC (ps : Pages) (S : Cpu) (x : I5) : Cpu := if accL x.op then loadF ps S x (accN x.op) (accS x.op) else S
def accM (ps : Pages) (S : Cpu) (x : I5) (i : Nat) : Int := if accL x.op then byteAt ps i else if accE S x = 0 then putF (byteAt ps) (addrF S x).toNat (accN x.op).toNat ((S.regs[x.a]?).getD 0) i else byteAt ps i
theorem store_calls (h : EM w c pg ps S inp out) (x : I5) (n : Int) (hn : n = 1 ∨ n = 2 ∨ n = 4) (ha : x.a < 16) (hb : x.b < 16) (hi : -8388608 ≤ x.imm ∧ x.imm ≤ 16777216) :
    Calls Tryd.prog 65 #[.pointer (some ⟨c, 0, none⟩), x.enc, .int .i64 n] w fun e w' => ∃ ps', e = .returned (errT (mayF S.code (addrF S x) n true)) ∧ Did w w' c pg ps S ps' S inp out ∧ ∀ i, byteAt ps' i = if mayF S.code (addrF S x) n true = 0 then putF (byteAt ps) (addrF S x).toNat n.toNat ((S.regs[x.a]?).getD 0) i else byteAt ps i := by
  by_cases c0 : mayF S.code (addrF S x) n true = 0
  · refine (store_yes h x n hn ha hb hi c0).mono ?_
    rintro e w' ⟨rfl, ps', d, hb⟩
    exact ⟨ps', by rw [c0]; rfl, d, fun i => by rw [if_pos c0, hb]⟩
  · refine (store_no h x n hn ha hb hi c0).mono ?_
    rintro e w' ⟨rfl, d⟩
    exact ⟨ps, rfl, d, fun i => by rw [if_neg c0]⟩
set_option maxHeartbeats 4000000 in
set_option maxRecDepth 100000 in
theorem access_calls (h : EM w c pg ps S inp out) (x : I5) (hop : x.op = 80 ∨ x.op = 81 ∨ x.op = 82 ∨ x.op = 83 ∨ x.op = 84 ∨ x.op = 88 ∨ x.op = 89 ∨ x.op = 90) (ha : x.a < 16) (hb : x.b < 16) (hi : -8388608 ≤ x.imm ∧ x.imm ≤ 16777216) :
    Calls Tryd.prog 41 #[.pointer (some ⟨c, 0, none⟩), x.enc] w fun e w' => ∃ ps', e = .returned (errT (accE S x)) ∧ Did w w' c pg ps S ps' (accC ps S x) inp out ∧ ∀ i, byteAt ps' i = accM ps S x i := by
  obtain ⟨op, a, b, d, imm⟩ := x
  simp only at hop ha hb hi
  have H := Aside0.mk h
  have HI := Aside0.mk hi
  have HA := Aside0.mk ha
  have HBB := Aside0.mk hb
  clear h hi ha hb
  rcases hop with rfl | rfl | rfl | rfl | rfl | rfl | rfl | rfl
  · unfold I5.enc
    simp only
    go_enter Tryd.func41, Tryd.ntmps41
    go_wp2_with (fail)
    go_at_call 64
    have hB0 : Below w.heap.size w (w.alloc (.cells #[.int .i64 80, .int .i64 a, .int .i64 b, .int .i64 d, .int .i64 imm] 67)) := by (repeat (first | (with_reducible exact Below.refl _ _) | (with_reducible assumption) | with_reducible apply below_alloc | with_reducible apply pw_below_drewN | with_reducible apply below_drew1))
    have E1 := Aside0.mk (H.out.below hB0)
    refine (load_calls E1.out ⟨80, a, b, d, imm⟩ 1 true (by decide) HA.out HBB.out HI.out).mono ?_
    rintro e w' ⟨rfl, hd⟩
    go_wp2_with (fail)
    all_goals go_ret
    all_goals exact ⟨_, rfl, Did.pre hB0 hd, fun i => rfl⟩
  · unfold I5.enc
    simp only
    go_enter Tryd.func41, Tryd.ntmps41
    go_wp2_with (fail)
    go_at_call 64
    have hB0 : Below w.heap.size w (w.alloc (.cells #[.int .i64 81, .int .i64 a, .int .i64 b, .int .i64 d, .int .i64 imm] 67)) := by (repeat (first | (with_reducible exact Below.refl _ _) | (with_reducible assumption) | with_reducible apply below_alloc | with_reducible apply pw_below_drewN | with_reducible apply below_drew1))
    have E1 := Aside0.mk (H.out.below hB0)
    refine (load_calls E1.out ⟨81, a, b, d, imm⟩ 1 false (by decide) HA.out HBB.out HI.out).mono ?_
    rintro e w' ⟨rfl, hd⟩
    go_wp2_with (fail)
    all_goals go_ret
    all_goals exact ⟨_, rfl, Did.pre hB0 hd, fun i => rfl⟩
  · unfold I5.enc
    simp only
    go_enter Tryd.func41, Tryd.ntmps41
    go_wp2_with (fail)
    go_at_call 64
    have hB0 : Below w.heap.size w (w.alloc (.cells #[.int .i64 82, .int .i64 a, .int .i64 b, .int .i64 d, .int .i64 imm] 67)) := by (repeat (first | (with_reducible exact Below.refl _ _) | (with_reducible assumption) | with_reducible apply below_alloc | with_reducible apply pw_below_drewN | with_reducible apply below_drew1))
    have E1 := Aside0.mk (H.out.below hB0)
    refine (load_calls E1.out ⟨82, a, b, d, imm⟩ 2 true (by decide) HA.out HBB.out HI.out).mono ?_
    rintro e w' ⟨rfl, hd⟩
    go_wp2_with (fail)
    all_goals go_ret
    all_goals exact ⟨_, rfl, Did.pre hB0 hd, fun i => rfl⟩
  · unfold I5.enc
    simp only
    go_enter Tryd.func41, Tryd.ntmps41
    go_wp2_with (fail)
    go_at_call 64
    have hB0 : Below w.heap.size w (w.alloc (.cells #[.int .i64 83, .int .i64 a, .int .i64 b, .int .i64 d, .int .i64 imm] 67)) := by (repeat (first | (with_reducible exact Below.refl _ _) | (with_reducible assumption) | with_reducible apply below_alloc | with_reducible apply pw_below_drewN | with_reducible apply below_drew1))
    have E1 := Aside0.mk (H.out.below hB0)
    refine (load_calls E1.out ⟨83, a, b, d, imm⟩ 2 false (by decide) HA.out HBB.out HI.out).mono ?_
    rintro e w' ⟨rfl, hd⟩
    go_wp2_with (fail)
    all_goals go_ret
    all_goals exact ⟨_, rfl, Did.pre hB0 hd, fun i => rfl⟩
  · unfold I5.enc
    simp only
    go_enter Tryd.func41, Tryd.ntmps41
    go_wp2_with (fail)
    go_at_call 64
    have hB0 : Below w.heap.size w (w.alloc (.cells #[.int .i64 84, .int .i64 a, .int .i64 b, .int .i64 d, .int .i64 imm] 67)) := by (repeat (first | (with_reducible exact Below.refl _ _) | (with_reducible assumption) | with_reducible apply below_alloc | with_reducible apply pw_below_drewN | with_reducible apply below_drew1))
    have E1 := Aside0.mk (H.out.below hB0)
    refine (load_calls E1.out ⟨84, a, b, d, imm⟩ 4 false (by decide) HA.out HBB.out HI.out).mono ?_
    rintro e w' ⟨rfl, hd⟩
    go_wp2_with (fail)
    all_goals go_ret
    all_goals exact ⟨_, rfl, Did.pre hB0 hd, fun i => rfl⟩
  · unfold I5.enc
    simp only
    go_enter Tryd.func41, Tryd.ntmps41
    go_wp2_with (fail)
    go_at_call 65
    have hB0 : Below w.heap.size w (w.alloc (.cells #[.int .i64 88, .int .i64 a, .int .i64 b, .int .i64 d, .int .i64 imm] 67)) := by (repeat (first | (with_reducible exact Below.refl _ _) | (with_reducible assumption) | with_reducible apply below_alloc | with_reducible apply pw_below_drewN | with_reducible apply below_drew1))
    have E1 := Aside0.mk (H.out.below hB0)
    refine (store_calls E1.out ⟨88, a, b, d, imm⟩ 1 (by decide) HA.out HBB.out HI.out).mono ?_
    rintro e w' ⟨ps2, rfl, hd, hm⟩
    go_wp2_with (fail)
    all_goals go_ret
    all_goals exact ⟨_, rfl, Did.pre hB0 hd, hm⟩
  · unfold I5.enc
    simp only
    go_enter Tryd.func41, Tryd.ntmps41
    go_wp2_with (fail)
    go_at_call 65
    have hB0 : Below w.heap.size w (w.alloc (.cells #[.int .i64 89, .int .i64 a, .int .i64 b, .int .i64 d, .int .i64 imm] 67)) := by (repeat (first | (with_reducible exact Below.refl _ _) | (with_reducible assumption) | with_reducible apply below_alloc | with_reducible apply pw_below_drewN | with_reducible apply below_drew1))
    have E1 := Aside0.mk (H.out.below hB0)
    refine (store_calls E1.out ⟨89, a, b, d, imm⟩ 2 (by decide) HA.out HBB.out HI.out).mono ?_
    rintro e w' ⟨ps2, rfl, hd, hm⟩
    go_wp2_with (fail)
    all_goals go_ret
    all_goals exact ⟨_, rfl, Did.pre hB0 hd, hm⟩
  · unfold I5.enc
    simp only
    go_enter Tryd.func41, Tryd.ntmps41
    go_wp2_with (fail)
    go_at_call 65
    have hB0 : Below w.heap.size w (w.alloc (.cells #[.int .i64 90, .int .i64 a, .int .i64 b, .int .i64 d, .int .i64 imm] 67)) := by (repeat (first | (with_reducible exact Below.refl _ _) | (with_reducible assumption) | with_reducible apply below_alloc | with_reducible apply pw_below_drewN | with_reducible apply below_drew1))
    have E1 := Aside0.mk (H.out.below hB0)
    refine (store_calls E1.out ⟨90, a, b, d, imm⟩ 4 (by decide) HA.out HBB.out HI.out).mono ?_
    rintro e w' ⟨ps2, rfl, hd, hm⟩
    go_wp2_with (fail)
    all_goals go_ret
    all_goals exact ⟨_, rfl, Did.pre hB0 hd, hm⟩
end Go.Proofs.YtejhnlljddjicaaDoor.Ma
namespace Go.Proofs.YtejhnlljddjicaaDoor.Ma
open Go.RowKit Go.Proofs.YtejhnlljddjicaaDoor.PEm Go.Proofs.YtejhnlljddjicaaDoorW.PrintWords Go.Proofs.YtejhnlljddjicaaDoorW.PrintLast Go.Proofs.YtejhnlljddjicaaDoorW.PrintMore
set_option linter.unusedVariables false
set_option linter.unusedSimpArgs false
variable {w w' : World} {c pg : Nat} {ps ps' : Pages} {S S' : Cpu} {inp out inp' out' : List Int}
theorem grown_ext {r : Option Nat} (h : w.grownBy w' r) : Ext (fun i => r = some i) w w' := ⟨h.os, h.tape, h.output, h.size, fun k hk hf => h.block k hk (fun e => hf e.symm)⟩
/-- The machine's row of what was put out is turned: all else of it stands. -/
theorem EM.grown (h : EM w c pg ps S inp out) {base : Nat} {v1 : Value} {out1 : List Int} (hg : w.grownBy w' S.outV.ownBlock) (hR : Kd.R (Kd.int .u8) 5 w' base (fun _ => True) v1 out1) (hat : v1.ownBlock = S.outV.ownBlock ∨ ∃ b, v1.ownBlock = some b ∧ w.heap.size ≤ b) :
    Did w (w'.setCell ⟨c, 21, none⟩ v1) c pg ps S ps { S with outV := v1 } inp out1 := by
  have hnd := h.nodup
  have xE := grown_ext hg
  have hn1 := hnd
  unfold foot at hn1
  obtain ⟨a1, hn2⟩ := List.nodup_cons.1 hn1
  obtain ⟨a2, hn3⟩ := List.nodup_cons.1 hn2
  obtain ⟨a3, a4, a5⟩ := List.nodup_append.1 hn3
  have hco : ¬ S.outV.ownBlock = some c := fun e => a1 (by simp [e])
  have hpo : ¬ S.outV.ownBlock = some pg := fun e => a2 (by simp [e])
  have hlt := h.foot_lt
  have xF : Ext (fun i => S.outV.ownBlock = some i ∨ i = c) w (w'.setCell ⟨c, 21, none⟩ v1) := Ext.setCell (F := fun i => S.outV.ownBlock = some i ∨ i = c) (p := ⟨c, 21, none⟩) (xE.mono (fun i hi => Or.inl hi)) (Or.inl (Or.inr rfl)) v1
  have hv1c : ¬ v1.ownBlock = some c := by
    intro e
    rcases hat with h1 | ⟨b, h1, h2⟩
    · exact hco (h1 ▸ e)
    · rw [e] at h1; injection h1 with h1; have := lt_of_at h.head; omega
  have hnew : ∀ i, v1.ownBlock = some i → S.outV.ownBlock = some i ∨ w.heap.size ≤ i := by
    intro i e
    rcases hat with h1 | ⟨b, h1, h2⟩
    · exact .inl (h1 ▸ e)
    · rw [e] at h1; injection h1 with h1; exact .inr (by omega)
  refine ⟨⟨?_, h.nreg, h.regIn, h.pcIn, h.codeIn, xF.at h.pages (fun e => e.elim hpo (fun e => a1 (by simp [← e]))), h.npg, ?_, ?_, ?_, ?_⟩, xF.mono (fun i hi => by rcases hi with hi | rfl <;> simp [foot, *]), ?_⟩
  · have hh := xE.at h.head hco
    refine blk_put hh 21 v1 ?_
    obtain ⟨r0, r1, r2, r3, r4, r5, r6, r7, r8, r9, r10, r11, r12, r13, r14, r15, e⟩ := regs16 h.nreg
    simp [cpuRow, e]
  · intro g bs hm
    obtain ⟨h1, h2⟩ := h.page g bs hm
    have hgb : g ∈ blocks ps := by unfold blocks; rw [List.mem_filterMap]; exact ⟨_, hm, rfl⟩
    refine ⟨xF.at h1 (fun e => e.elim (fun e => a5 g hgb g (by simp [e]) rfl) (fun e => a1 (by simp [← e, hgb]))), h2⟩
  · unfold foot
    refine List.nodup_cons.2 ⟨?_, List.nodup_cons.2 ⟨?_, List.nodup_append.2 ⟨a3, ?_, ?_⟩⟩⟩
    · intro hm
      simp only [List.mem_cons, List.mem_append, Option.mem_toList, Option.mem_def] at hm
      rcases hm with hm | hm | hm
      · exact a1 (by simp [hm])
      · exact a1 (by simp [hm])
      · exact hv1c hm
    · intro hm
      simp only [List.mem_append, Option.mem_toList, Option.mem_def] at hm
      rcases hm with hm | hm
      · exact a2 (by simp [hm])
      · exact (hnew pg hm).elim hpo (fun h' => absurd (lt_of_at h.pages) (by omega))
    · cases v1.ownBlock <;> simp
    · intro x hx y hy e
      subst e
      simp only [Option.mem_toList, Option.mem_def] at hy
      exact (hnew x hy).elim (fun h' => a5 x hx x (by simp [h']) rfl) (fun h' => absurd (hlt x (by simp [foot, hx])) (by omega))
  · obtain ⟨A, cap, e1, hl, hC, hA⟩ := h.inS
    refine ⟨A, cap, e1, hl, ?_, fun ad ha => ⟨fun hm => ?_, Nat.lt_of_lt_of_le (hA ad ha).2 xF.size⟩⟩
    · refine ⟨hC.1, hC.2.1, fun h0 => ?_⟩
      obtain ⟨ad, ha, hx⟩ := hC.2.2 h0
      refine ⟨ad, ha, fun j p hj => ?_⟩
      obtain ⟨cs, h1, h2, h3⟩ := hx j p hj
      refine ⟨cs, h1, h2, fun q v hq => ?_⟩
      have hb := xF.block ad.block (hA ad ha).2 (fun e2 => (hA ad ha).1 (by rcases e2 with e2 | e2 <;> simp [foot, e2]))
      have := h3 q v hq
      have hbl : (ad.add (j * (Kd.int .u8).sz + q)).block = ad.block := by unfold Addr.add; split <;> rfl
      unfold World.cell? at this ⊢
      rw [hbl] at this ⊢
      rw [hb]; exact this
    · simp only [foot, List.mem_cons, List.mem_append, Option.mem_toList, Option.mem_def] at hm
      rcases hm with hm | hm | hm | hm
      · exact (hA ad ha).1 (by simp [foot, hm])
      · exact (hA ad ha).1 (by simp [foot, hm])
      · exact (hA ad ha).1 (by simp [foot, hm])
      · exact (hnew _ hm).elim (fun h' => (hA ad ha).1 (by simp [foot, h'])) (fun h' => absurd (hA ad ha).2 (by omega))
  · refine ⟨base, Kd.R_mono (Kd.R_step (Kd.R_tight rfl hR) (fun j hj hlt => Below.heap_setCell w' _ v1 j (fun e => hv1c (by have e2 : j = c := e; rw [← e2]; exact hj.symm)))) (fun _ _ => trivial)⟩
  · intro i hi
    simp only [foot, List.mem_cons, List.mem_append, Option.mem_toList, Option.mem_def] at hi
    rcases hi with hi | hi | hi | hi
    · exact .inl (by simp [foot, hi])
    · exact .inl (by simp [foot, hi])
    · exact .inl (by simp [foot, hi])
    · exact (hnew _ hi).imp (fun h' => by simp [foot, h']) id
set_option maxRecDepth 100000 in
/-- The first byte of the input is taken. -/
theorem EM.take_in {b : Int} {rest : List Int} (h : EM w c pg ps S (b :: rest) out) : ∃ ad cap A', S.inV = .slice (some ad) (rest.length + 1) cap ∧ w.cell? ad = some (.int .u8 b) ∧ (∀ W : World, (Instr.slice 22 (.slice (some ad) (rest.length + 1) cap) (some (.int .i64 1)) none none).run Tryd.prog W = .ok (.slice A' rest.length (cap - 1)) W) ∧
    Did w (w.setCell ⟨c, 20, none⟩ (.slice A' rest.length (cap - 1))) c pg ps S ps { S with inV := .slice A' rest.length (cap - 1) } rest out := by
  obtain ⟨A, cap, e1, hl, hC, hA⟩ := h.inS
  have hR := Kd.reads_of_C (enc := Value.int .u8) (d := (0 : Int)) (h1 := fun _ => rfl) hC
  obtain ⟨ad, rfl, hc⟩ := hR.2.2 (by simp)
  obtain ⟨i, hi, hz, hs, hb⟩ := info5
  have hel : Tryd.prog.elem 22 = 5 := by simp [Program.elem, Tryd.underlying22]
  have hu : Tryd.prog.underlying 22 = some (.slice (Tryd.prog.elem 22)) := by rw [hel]; exact Tryd.underlying22
  have hl2 : rest.length + 1 ≤ cap := by simpa using hl
  have hRI : ReadsInt w .u8 (some ad) (rest.length + 1) (b :: rest) := hR
  have hdr := hRI.drop_ 1 (by omega) hl2
  obtain ⟨A', hA'⟩ : ∃ q, q = (if cap = 1 then some ad else (some ad).map (·.add 1)) := ⟨_, rfl⟩
  have hblk : ∀ a', A' = some a' → a'.block = ad.block := by
    intro a' e
    rw [hA'] at e
    split at e
    · injection e with e; rw [e]
    · simp only [Option.map_some, Option.some.injEq] at e; rw [← e]; exact add_block ad 1
  refine ⟨ad, cap, A', e1, ?_, fun W => ?_, ?_⟩
  · have := hc 0 (by simp)
    rw [show ad.add 0 = ad by simp [Addr.add]] at this
    exact this
  · rw [run_slice_l W 22 (some ad) (rest.length + 1) cap hu .i64 1 (by decide) (by omega), hel, hA']
    simp [sizeOf, typeInfo, hi, hs, sliced, Result.andThen]
  · have hnd := h.nodup
    have xE : Ext (fun k => k = c) w (w.setCell ⟨c, 20, none⟩ (.slice A' rest.length (cap - 1))) := Ext.setCell (F := fun k => k = c) (p := ⟨c, 20, none⟩) (Ext.refl _ _) (Or.inl rfl) _
    have hnc : ∀ k ∈ pg :: (blocks ps ++ S.outV.ownBlock.toList), ¬ k = c := by
      intro k hk e
      unfold foot at hnd
      exact (List.nodup_cons.1 hnd).1 (e ▸ hk)
    refine ⟨⟨?_, h.nreg, h.regIn, h.pcIn, h.codeIn, xE.at h.pages (hnc pg (by simp)), h.npg, ?_, hnd, ?_, ?_⟩, xE.mono (fun k hk => by subst hk; simp [foot]), fun k hk => .inl hk⟩
    · refine blk_put h.head 20 _ ?_
      obtain ⟨r0, r1, r2, r3, r4, r5, r6, r7, r8, r9, r10, r11, r12, r13, r14, r15, e⟩ := regs16 h.nreg
      simp [cpuRow, e]
    · intro g bs hm
      obtain ⟨h1, h2⟩ := h.page g bs hm
      refine ⟨xE.at h1 (hnc g ?_), h2⟩
      simp only [List.mem_cons, List.mem_append, blocks, List.mem_filterMap]
      exact .inr (.inl ⟨_, hm, rfl⟩)
    · refine ⟨A', cap - 1, rfl, by omega, ?_, fun a' e => ⟨by rw [hblk a' e]; exact (hA ad rfl).1, Nat.lt_of_lt_of_le (by rw [hblk a' e]; exact (hA ad rfl).2) xE.size⟩⟩
      have hd2 : ReadsInt w .u8 A' rest.length rest := by rw [hA']; simpa using hdr
      refine Kd.C_of_reads (enc := Value.int .u8) (d := (0 : Int)) (h1 := fun _ => rfl) ?_
      refine ⟨hd2.1, hd2.2.1, fun h0 => ?_⟩
      obtain ⟨a', e, hx⟩ := hd2.2.2 h0
      refine ⟨a', e, fun j hj => ?_⟩
      rw [cell_far (by rw [add_block, hblk a' e]; exact fun e2 => (hA ad rfl).1 (by rw [e2]; simp [foot]))]
      exact hx j hj
    · obtain ⟨base, hR⟩ := h.outS
      exact ⟨base, Kd.R_mono (Kd.R_step (Kd.R_tight rfl hR) (fun j hj hlt => xE.block j hlt (hnc j (by simp [← hj])))) (fun _ _ => trivial)⟩
end Go.Proofs.YtejhnlljddjicaaDoor.Ma
namespace Go.Proofs.YtejhnlljddjicaaDoor.Ma
open Go.RowKit Go.Proofs.YtejhnlljddjicaaDoor.PEm Go.Proofs.YtejhnlljddjicaaDoorW.PrintWords Go.Proofs.YtejhnlljddjicaaDoorW.PrintLast Go.Proofs.YtejhnlljddjicaaDoorW.PrintMore Go.Proofs.YtejhnlljddjicaaDoor.La
set_option linter.unusedVariables false
set_option linter.unusedSimpArgs false
variable {w w' : World} {c pg : Nat} {ps ps' : Pages} {S S' : Cpu} {inp out inp' out' : List Int}
/-- What an instruction answers, and what it makes of the machine, the memory, the input, the output. -/
structure Ran where
  err : Value
  S : Cpu
  m : Nat → Int
  inp : List Int
  out : List Int
def regV (S : Cpu) (k : Nat) : Int := (S.regs[k]?).getD 0
def setR (S : Cpu) (k : Nat) (v : Int) : Cpu := { S with regs := S.regs.set k v }
def stopV (a b : Int) : Value := .iface 79 (.agg #[.int .i64 a, .int .i64 b])
def doF (ps : Pages) (S : Cpu) (x : I5) (inp out : List Int) : Ran :=
  if 1 ≤ x.op ∧ x.op ≤ 19 then ⟨if (binP x.op (regV S x.b) (regV S x.c)).2 then .nilIface else stopV 2 0, reckF S x.op x.a (regV S x.b) (regV S x.c), byteAt ps, inp, out⟩
  else if 33 ≤ x.op ∧ x.op ≤ 51 then ⟨if (binP (x.op - 32) (regV S x.b) (x.imm % 4294967296)).2 then .nilIface else stopV 2 0, reckF S (x.op - 32) x.a (regV S x.b) (x.imm % 4294967296), byteAt ps, inp, out⟩
  else if (80 ≤ x.op ∧ x.op ≤ 84) ∨ (88 ≤ x.op ∧ x.op ≤ 90) then ⟨errT (accE S x), accC ps S x, accM ps S x, inp, out⟩
  else if x.op = 64 then ⟨.nilIface, setR S x.a (x.imm % 4294967296), byteAt ps, inp, out⟩
  else if x.op = 65 then ⟨.nilIface, setR S x.a (bits .or .u32 (bits .and .u32 (regV S x.a) 65535) (shl .u32 (x.imm % 4294967296) 16)), byteAt ps, inp, out⟩
  else if x.op = 96 then ⟨.nilIface, { S with pc := jumpF S.pc x.imm }, byteAt ps, inp, out⟩
  else if x.op = 97 then ⟨.nilIface, if regV S x.a = 0 then { S with pc := jumpF S.pc x.imm } else S, byteAt ps, inp, out⟩
  else if x.op = 98 then ⟨.nilIface, if regV S x.a = 0 then S else { S with pc := jumpF S.pc x.imm }, byteAt ps, inp, out⟩
  else if x.op = 99 then ⟨.nilIface, { setR S 14 S.pc with pc := jumpF S.pc x.imm }, byteAt ps, inp, out⟩
  else if x.op = 100 then ⟨.nilIface, { S with pc := regV S x.a }, byteAt ps, inp, out⟩
  else if x.op = 104 then
    if regV S 15 < x.imm % 4294967296 ∨ regV S 15 - x.imm % 4294967296 < 4194304 then ⟨errT 4, S, byteAt ps, inp, out⟩ else ⟨.nilIface, setR S 15 (regV S 15 - x.imm % 4294967296), byteAt ps, inp, out⟩
  else if x.op = 105 then ⟨.nilIface, setR S 15 ((regV S 15 + x.imm % 4294967296) % 4294967296), byteAt ps, inp, out⟩
  else if x.op = 112 then ⟨.nilIface, S, byteAt ps, inp, out ++ [regV S x.a % 256]⟩
  else if x.op = 113 then (match inp with
    | [] => ⟨.nilIface, setR S x.a 4294967295, byteAt ps, inp, out⟩
    | b :: rest => ⟨.nilIface, setR S x.a b, byteAt ps, rest, out⟩)
  else ⟨stopV 1 (if regV S x.a < 2147483648 then regV S x.a else regV S x.a - 4294967296), S, byteAt ps, inp, out⟩
/-- What do does to a machine. -/
def Ran.did (r : Ran) (w w' : World) (c pg : Nat) (ps : Pages) (S : Cpu) : Prop :=
  ∃ iv ov ps', Did w w' c pg ps S ps' { r.S with inV := iv, outV := ov } r.inp r.out ∧ ∀ i, byteAt ps' i = r.m i
theorem form1 (op : Int) (h : 1 ≤ op ∧ op ≤ 19) : enc_Form.f 20 op = some 1 := by
  unfold enc_Form.f; rw [if_pos (by omega), show decide (op ≤ 19) = true by simp; omega]; simp [enc_Form.j0]
theorem form2 (op : Int) (h : (33 ≤ op ∧ op ≤ 51) ∨ (80 ≤ op ∧ op ≤ 84) ∨ (88 ≤ op ∧ op ≤ 90)) : enc_Form.f 20 op = some 2 := by
  unfold enc_Form.f
  rw [if_pos (by omega), show decide (op ≤ 19) = false by simp; omega]
  simp only [enc_Form.j0, enc_Form.j1, enc_Form.j2, enc_Form.j3]
  rw [if_neg (by decide), if_pos (by omega)]
  by_cases h1 : op ≤ 51
  · rw [if_pos (by simp; omega)]
  · rw [if_neg (by simp; omega), if_pos (by omega)]
    by_cases h2 : op ≤ 84
    · rw [if_pos (by simp; omega)]
    · rw [if_neg (by simp; omega), if_pos (by omega), if_pos (by omega)]
end Go.Proofs.YtejhnlljddjicaaDoor.Ma
