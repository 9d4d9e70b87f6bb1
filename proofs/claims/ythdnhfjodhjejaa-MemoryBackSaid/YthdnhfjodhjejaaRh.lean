/- The document's memory: Zero. No condition beyond those each theorem names. -/
import Derived.Test.YthdnhfjodhjejaaRg
import Derived.StillTailTactics
namespace Go.Proofs.Ythdnhfjodhjejaa.Ma
open Go.RowKit Go.Proofs.Ythdnhfjodhjejaa.PMe Go.Proofs.YthdnhfjodhjejaaW.PrintWords Go.Proofs.YthdnhfjodhjejaaW.PrintLast Go.Proofs.YthdnhfjodhjejaaW.PrintMore
set_option linter.unusedVariables false
set_option linter.unusedSimpArgs false
variable {w w' : World} {r : Nat} {sv : Value} {Bs : List Blk}
theorem ext_cell {F : Nat → Prop} (k : Ext F w w') {p : Addr} {v : Value} (hc : w.cell? p = some v) (hF : ¬ F p.block) : w'.cell? p = some v := by
  have hlt : p.block < w.heap.size := by
    cases h : w.heap[p.block]? with
    | none => simp [World.cell?, h] at hc
    | some o => exact blk_lt h
  have e := k.block _ hlt hF
  have : w'.cell? p = w.cell? p := by unfold World.cell?; rw [e]
  exact this.trans hc
theorem ext_set4 (W : World) (g i : Nat) (a b c d : Value) : Ext (fun q => q = g) W ((((W.setCell ⟨g, i, none⟩ a).setCell ⟨g, i + 1, none⟩ b).setCell ⟨g, i + 2, none⟩ c).setCell ⟨g, i + 3, none⟩ d) :=
  Ext.set4 (Ext.refl (fun q => q = g) W) rfl _ _ _ _ _
theorem RM.far (h : RM w r sv Bs) {y : Blk} {K hb c : Nat} (hK : Bs[K]? = some y) (hd : y.dead = false) (hs : sv = .slice (some ⟨hb, 0, none⟩) Bs.length c) : r ≠ y.g ∧ hb ≠ y.g := by
  have hgf : y.g ∈ Bs.flatMap Blk.fp := List.mem_flatMap.2 ⟨y, List.mem_of_getElem? hK, by simp [Blk.fp, hd]⟩
  have hnd := h.nodup
  unfold rfoot at hnd
  rw [List.nodup_cons, List.nodup_append] at hnd
  exact ⟨fun e => hnd.1 (List.mem_append.2 (.inr (e ▸ hgf))), fun e => hnd.2.2.2 hb (by rw [hs]; simp [Value.ownBlock]) y.g hgf e⟩
/-- What Zero answers, and the blocks behind it. -/
def rzeroF (Bs : List Blk) (x : V3) (n : Int) : Int × List Blk := match ratR Bs x n 1 with
  | none => (3, Bs)
  | some y => (0, updB Bs x.b (put y.cs x.v.toNat (List.replicate n.toNat numC)))
set_option maxHeartbeats 8000000 in
set_option maxRecDepth 100000 in
theorem rZero_calls (h : RM w r sv Bs) (x : V3) (n : Int) (h0 : 0 ≤ x.v) (h1 : x.v < 4294967296) (hn2 : n < 9223372036854775808) : Calls Try.prog 60 #[.pointer (some ⟨r, 0, none⟩), x.enc, .int .i64 n] w fun e w' => e = .returned (.int .i64 (rzeroF Bs x n).1) ∧ RDid w w' r sv Bs sv (rzeroF Bs x n).2 := by
  have hu51 := Try.underlying51
  have H := Aside0.mk h
  have hc := fun W (hW : RM W r sv Bs) => rat_calls hW x n 1 h0 h1 hn2
  cases ha : ratR Bs x n 1 with
  | none =>
    unfold rzeroF
    rw [ha] at hc ⊢
    have HC := Aside0.mk hc
    clear hc ha h
    obtain ⟨k, v, b⟩ := x
    unfold V3.enc
    simp only at h0 h1 ⊢
    go_enter Try.func60, Try.ntmps60
    go_wp2_with (fail)
    go_at_call 86
    refine (HC.out _ (H.out.below (by (repeat (first | (with_reducible exact Below.refl _ _) | (with_reducible assumption) | with_reducible apply below_alloc | with_reducible apply pw_below_drewN | with_reducible apply below_drew1))))).mono ?_
    rintro e W1 ⟨rfl, hB0⟩
    have HB := Aside0.mk (pm_chain (w := w) (by (repeat (first | (with_reducible exact Below.refl _ _) | (with_reducible assumption) | with_reducible apply below_alloc | with_reducible apply pw_below_drewN | with_reducible apply below_drew1))) hB0)
    clear hB0
    simp only [Option.isSome]
    go_wp2_with (fail)
    go_ret
    exact ⟨rfl, RDid.same H.out HB.out⟩
  | some y =>
    obtain ⟨hg, hn1, _, hle, _, _⟩ := ratR_some ha
    have hl := (goodR_some hg).2.1
    unfold rzeroF
    rw [ha] at hc ⊢
    have HC := Aside0.mk hc
    have HL := Aside0.mk hl
    clear hc hg ha h
    obtain ⟨k, v, b⟩ := x
    unfold V3.enc
    simp only at h0 h1 hle hl HL ⊢
    have hdead := (livR_some hl).2.2.2
    obtain ⟨K, _, _, rfl, hK, hKl, _, _, _, l1, l2, _, _⟩ := livR_at H.out hl
    obtain ⟨V, rfl⟩ : ∃ V : Nat, v = V := ⟨v.toNat, by omega⟩
    obtain ⟨N, rfl⟩ : ∃ N : Nat, n = N := ⟨n.toNat, by omega⟩
    have HF := Aside0.mk (And.intro hKl (And.intro H.out.big (And.intro (show V + N ≤ y.cs.length by omega) l2)))
    have HK := Aside0.mk (And.intro hK hdead)
    have hV : V ≤ 16384 := by omega
    have hN : N ≤ 16384 := by omega
    have hN1 : decide ((N : Int) < 1) = false := by simp; omega
    simp only [Int.toNat_natCast]
    rw [updB_at hK]
    clear h0 h1 hn2 hle hl hn1 l1 l2 hdead hK hKl
    go_enter Try.func60, Try.ntmps60
    go_wp2_with (fail)
    go_at_call 86
    refine (HC.out _ (H.out.below (by (repeat (first | (with_reducible exact Below.refl _ _) | (with_reducible assumption) | with_reducible apply below_alloc | with_reducible apply pw_below_drewN | with_reducible apply below_drew1))))).mono ?_
    rintro e W1 ⟨rfl, hB0⟩
    have R4 := blk_below (heap_at w (.cells #[.int .i64 k, .int .u32 (V : Int), .int .i64 ((K : Int) + 1)] 51) w.heap.size rfl) hB0
    have hB := pm_chain (w := w) (by (repeat (first | (with_reducible exact Below.refl _ _) | (with_reducible assumption) | with_reducible apply below_alloc | with_reducible apply pw_below_drewN | with_reducible apply below_drew1))) hB0
    clear hB0
    obtain ⟨g4, hg4⟩ : ∃ g, g = w.heap.size := ⟨_, rfl⟩
    rw [← hg4]
    rw [← hg4] at R4
    have RM1 := H.out.below hB
    have HG := Aside0.mk (show g4 ≠ y.g by have := blk_lt (H.out.row y (List.mem_of_getElem? HK.out.1) HK.out.2); omega)
    clear hg4
    obtain ⟨d0, _⟩ := RM1.cells
    obtain ⟨K', hb, cap, hKK, _, _, hsv, hcap, ⟨e4, e5, e6⟩, _, _, hrow, _⟩ := livR_at RM1 HL.out
    obtain rfl : K' = K := by omega
    have hfar := RM1.far HK.out.1 HK.out.2 hsv
    rw [hsv] at d0
    obtain ⟨⟨k0, k1, k2⟩, _⟩ := know3 R4
    have HB := Aside0.mk hB
    have HRM := Aside0.mk RM1
    have HROW := Aside0.mk hrow
    have HFAR := Aside0.mk hfar
    have HCELL := Aside0.mk (And.intro d0 (And.intro e6 (And.intro k1 k2)))
    have hcap2 : Bs.length ≤ cap := hcap
    clear R4 hB RM1 hKK hsv hrow hfar d0 e4 e5 e6 k0 k1 k2 hcap
    simp only [Option.isSome]
    go_wp2_with (fail)
    go_loopg [7] N (fun kq v7 wr => ∃ j : Nat, j + kq = N ∧ v7 = .int .i64 j ∧ Aside0 (wr.heap[y.g]? = some (.cells (rowC (put y.cs V ((List.replicate N numC).take j))) 66 (0, 0))) ∧ Aside0 (Ext (fun i => i = y.g) W1 wr))
    case atStart => exact ⟨0, by omega, rfl, ⟨by rw [List.take_zero, put_nil]; exact HROW.out⟩, ⟨Ext.refl _ _⟩⟩
    case round =>
      obtain ⟨j, hj, rfl, HG1, HX⟩ := hrel
      by_cases hlt : j < N
      · have HJ := Aside0.mk hj
        clear hj
        have hlp : (put y.cs V ((List.replicate N numC).take j)).length = y.cs.length := put_len (by simp; have := HF.out; omega)
        obtain ⟨⟨y0, y1, y2, y3, g0, g1, g2, g3⟩, q0, q1, q2, q3⟩ := row_cells HG1.out (V + j) (by rw [hlp]; have := HF.out; omega)
        have HLP := Aside0.mk hlp
        have d0 := ext_cell HX.out HCELL.out.1 HFAR.out.1
        have e6 := ext_cell HX.out HCELL.out.2.1 HFAR.out.2
        have k1 := ext_cell HX.out HCELL.out.2.2.1 HG.out
        have k2 := ext_cell HX.out HCELL.out.2.2.2 HG.out
        have HLT := Aside0.mk hlt
        clear hlp
        go_wp2_with (fail)
        have f2 : IntKind.i64.wrap ((K' : Int) + 1 - 1) = K' := by have := HF.out; rw [show (K' : Int) + 1 - 1 = K' by omega]; exact IntWalk.i64_in _ (by omega)
        have f4 : IntKind.i64.wrap (V : Int) = V := IntWalk.i64_in _ (by omega)
        have f5 : IntKind.i64.wrap ((V : Int) + j) = (V : Int) + j := IntWalk.i64_in _ (by omega)
        have f6 : (0 : Int) ≤ (V : Int) + j := by omega
        have f8 : (V : Int) + j < (y.cs.length : Int) := by have := HF.out; omega
        have f9 : ((V : Int) + j).toNat = V + j := by omega
        have f10 : (K' : Int) < (Bs.length : Int) := by have := HF.out; omega
        have f3 : (0 : Int) ≤ K' := by omega
        have f11 : IntKind.i64.wrap (K' : Int) = K' := IntWalk.i64_in _ (by have := HF.out; omega)
        have f12 : (0 : Int) ≤ V := by omega
        have f13 : (0 : Int) ≤ j := by omega
        go_still_tail 17, (by kernel_rfl)
        change wpList _ _ _ _ _ wr.drew
        clear f2 f3 f4 f5 f6 f8 f9 f10 f11 f12 f13 d0 e6 k1 k2
        go_wp2_with (fail)
        go_roundg (N - (j + 1))
        case measure => have := HJ.out; have := HLT.out; omega
        case rel =>
          have hj1 := HLT.out
          have hc : (List.replicate N numC)[j]? = some numC := by rw [List.getElem?_replicate, if_pos hj1]
          have hrp := row_put HG1.out (V + j) (by rw [HLP.out]; have := HF.out; omega) 1 0 0 0
          have hst := put_step (cs := y.cs) (i := V) (j := j) (l := List.replicate N numC) (c := numC) (by simp; have := HF.out; omega) hc
          exact ⟨j + 1, by omega, by simp, ⟨by rw [hst]; exact blk_drew hrp⟩, ⟨(Ext.set4 HX.out rfl _ _ _ _ _).then_below (by (repeat (first | (with_reducible exact Below.refl _ _) | (with_reducible assumption) | with_reducible apply below_alloc | with_reducible apply pw_below_drewN | with_reducible apply below_drew1)))⟩⟩
      · obtain rfl : j = N := by omega
        go_wp2_with (fail)
        go_ret
        have hg := HG1.out
        rw [List.take_of_length_le (by simp)] at hg
        exact ⟨rfl, RDid.pre HB.out (RDid.upd HRM.out HK.out.1 HK.out.2 (put_len (by simp; have := HF.out; omega)) HX.out hg)⟩
end Go.Proofs.Ythdnhfjodhjejaa.Ma
