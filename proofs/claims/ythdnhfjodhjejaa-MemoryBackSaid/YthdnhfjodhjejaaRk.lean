/- The document's memory: End, Make. No condition beyond those each theorem names. -/
import Derived.Test.YthdnhfjodhjejaaRj
import Derived.Maps.AppendAt
import Derived.Deep.AppendLies
import Derived.Deep.RegionHeld3
namespace Go.Proofs.Ythdnhfjodhjejaa.Ma
open Go.RowKit Go.Proofs.Ythdnhfjodhjejaa.PMe Go.Proofs.YthdnhfjodhjejaaW.PrintWords Go.Proofs.YthdnhfjodhjejaaW.PrintLast Go.Proofs.YthdnhfjodhjejaaW.PrintMore
set_option linter.unusedVariables false
set_option linter.unusedSimpArgs false
variable {w w' : World} {r : Nat} {sv : Value} {Bs : List Blk}
def kill (y : Blk) : Blk := ⟨y.al, true, y.g, []⟩
theorem live_kill {y : Blk} : ∀ {Bs : List Blk} {K : Nat}, Bs[K]? = some y → y.dead = false → live (Bs.set K (kill y)) + 1 = live Bs
  | [], _, h, _ => by simp at h
  | x :: L, 0, h, e => by simp at h; subst h; simp [live, List.filter_cons, e, kill]
  | x :: L, K + 1, h, e => by
    have ih := live_kill (y := y) (Bs := L) (K := K) (by simpa using h) e
    unfold live at ih ⊢
    rw [List.set_cons_succ, List.filter_cons, List.filter_cons]
    split
    · rw [List.length_cons, List.length_cons, ih]
    · exact ih
theorem fp_kill {y : Blk} : ∀ {Bs : List Blk} {K : Nat}, Bs[K]? = some y → List.Sublist ((Bs.set K (kill y)).flatMap Blk.fp) (Bs.flatMap Blk.fp)
  | [], _, h => by simp at h
  | x :: L, 0, h => by
    simp at h; subst h
    simp only [List.set_cons_zero, List.flatMap_cons]
    refine List.Sublist.append ?_ (List.Sublist.refl _)
    simp [kill, Blk.fp]
  | x :: L, K + 1, h => by
    simp only [List.set_cons_succ, List.flatMap_cons]
    exact (List.Sublist.refl _).append (fp_kill (by simpa using h))
theorem RM.kill (h : RM w r sv Bs) {K hb c : Nat} {y : Blk} (hK : Bs[K]? = some y) (hd : y.dead = false) (hs : sv = .slice (some ⟨hb, 0, none⟩) Bs.length c) :
    RDid w (((w.setCell ⟨hb, K * 3 + 1, none⟩ (.bool true)).setCell ⟨hb, K * 3 + 2, none⟩ (.slice none 0 0)).setCell ⟨r, 1, none⟩ (.int .i64 ((live Bs : Int) - 1))) r sv Bs sv (Bs.set K (Ma.kill y)) := by
  have hlt := (List.getElem?_eq_some_iff.1 hK).1
  have hm := List.mem_of_getElem? hK
  have hnd := h.nodup
  unfold rfoot at hnd
  rw [List.nodup_cons, List.nodup_append] at hnd
  have hbo : sv.ownBlock = some hb := by rw [hs]; rfl
  have hrb : r ≠ hb := fun e => hnd.1 (by simp [hbo, e])
  have hgb : ∀ x ∈ Bs, x.dead = false → x.g ≠ hb := fun x hx hxd e => hnd.2.2.2 hb (by simp [hbo]) x.g (List.mem_flatMap.2 ⟨x, hx, by simp [Blk.fp, hxd]⟩) e.symm
  have hgr : ∀ x ∈ Bs, x.dead = false → x.g ≠ r := fun x hx hxd e => hnd.1 (List.mem_append.2 (.inr (List.mem_flatMap.2 ⟨x, hx, by simp [Blk.fp, hxd, e]⟩)))
  obtain ⟨g', cap, cur, e1, e2, e3, e4, e5, e6⟩ : ∃ hb cap cur, sv = .slice (some ⟨hb, 0, none⟩) Bs.length cap ∧ w.heap[hb]? = some (.cells cur 181 (0, 0)) ∧ Bs.length ≤ cap ∧ cap ≤ maxLen ∧ cur.size = cap * 3 ∧ cur.toList.take (Bs.length * 3) = Bs.flatMap Blk.enc := by
    rcases h.form with ⟨_, h2⟩ | h2
    · subst h2; simp at hlt
    · exact h2
  rw [hs] at e1
  injection e1 with q1 _ q3
  injection q1 with q1
  injection q1 with q1
  subst q1 q3
  have key : ∀ x ∈ Bs.set K (Ma.kill y), x = Ma.kill y ∨ ∃ i, i ≠ K ∧ Bs[i]? = some x := by
    intro x hxm
    obtain ⟨i, hi⟩ := List.getElem?_of_mem hxm
    by_cases e : K = i
    · subst e
      rw [List.getElem?_set_self hlt] at hi
      exact .inl (Option.some.inj hi).symm
    · rw [List.getElem?_set_ne e] at hi
      exact .inr ⟨i, fun e' => e e'.symm, hi⟩
  have hx : Ext (fun i => i = hb ∨ i = r) w (((w.setCell ⟨hb, K * 3 + 1, none⟩ (.bool true)).setCell ⟨hb, K * 3 + 2, none⟩ (.slice none 0 0)).setCell ⟨r, 1, none⟩ (.int .i64 ((live Bs : Int) - 1))) :=
    (((Ext.refl (fun i => i = hb ∨ i = r) w).setCell (.inl (.inl rfl)) _).setCell (.inl (.inl rfl)) _).setCell (.inl (.inr rfl)) _
  have hlk := live_kill hK hd
  refine ⟨⟨?_, ?_, ?_, ?_, ?_, ?_, ?_, ?_⟩, hx.mono ?_, ?_⟩
  · refine blk_put (blk_far (blk_far h.head hrb _) hrb _) 1 _ ?_
    rw [show ((live (Bs.set K (Ma.kill y)) : Nat) : Int) = (live Bs : Int) - 1 by omega]
    rfl
  · refine ⟨by rw [flatB_len, List.length_set], .inr ⟨hb, c, (cur.setIfInBounds (K * 3 + 1) (.bool true)).setIfInBounds (K * 3 + 2) (.slice none 0 0), by rw [hs, List.length_set], Nat.zero_le _, blk_far (blk_set (blk_set e2 _ _) _ _) (fun e => hrb e.symm) _, by rw [List.length_set]; exact e3, e4, by simp [e5], ?_⟩⟩
    rw [List.length_set]
    apply List.ext_getElem?
    intro q
    have hq := flatB_get (Bs.set K (Ma.kill y)) (q / 3) (q % 3) (by omega)
    have hp := flatB_get Bs (q / 3) (q % 3) (by omega)
    rw [show q / 3 * 3 + q % 3 = q by omega] at hq hp
    rw [hq, List.getElem?_take]
    by_cases hql : q < Bs.length * 3
    · rw [if_pos hql]
      rw [← e6, List.getElem?_take_of_lt hql] at hp
      simp only [Array.toList_setIfInBounds, List.getElem?_set, Array.length_toList, List.length_set]
      by_cases ek : K = q / 3
      · rw [if_pos ek, if_pos hlt, Option.bind_some]
        rw [← ek, hK, Option.bind_some] at hp
        have hm3 : q % 3 = 0 ∨ q % 3 = 1 ∨ q % 3 = 2 := by omega
        rcases hm3 with hm3 | hm3 | hm3
        · rw [if_neg (by omega), if_neg (by omega), hp, hm3]; rfl
        · rw [if_neg (by omega), if_pos (by omega), if_pos (by omega), hm3]; rfl
        · rw [if_pos (by omega), if_pos (by omega), hm3]; rfl
      · rw [if_neg ek, if_neg (by omega), if_neg (by omega)]
        exact hp
    · rw [if_neg hql, List.getElem?_eq_none (by rw [List.length_set]; omega)]
      rfl
  · intro x hxm hxd
    rcases key x hxm with rfl | ⟨i, hi, hix⟩
    · simp [Ma.kill] at hxd
    · have hxm' := List.mem_of_getElem? hix
      exact hx.at (h.row x hxm' hxd) (fun e => e.elim (hgb x hxm' hxd) (hgr x hxm' hxd))
  · unfold rfoot
    exact h.nodup.sublist (List.Sublist.cons_cons _ ((List.Sublist.refl _).append (fp_kill hK)))
  · intro x hxm hxd
    rcases key x hxm with rfl | ⟨i, hi, hix⟩
    · simp [Ma.kill] at hxd
    · exact h.len x (List.mem_of_getElem? hix) hxd
  · intro x hxm
    rcases key x hxm with rfl | ⟨i, hi, hix⟩
    · exact h.al y hm
    · exact h.al x (List.mem_of_getElem? hix)
  · have := h.few; omega
  · rw [List.length_set]; exact h.big
  · rintro i (rfl | rfl)
    · simp [rfoot, hbo]
    · simp [rfoot]
  · intro i hi
    refine .inl ?_
    unfold rfoot at hi ⊢
    simp only [List.mem_cons, List.mem_append] at hi ⊢
    rcases hi with hi | hi | hi
    · exact .inl hi
    · exact .inr (.inl hi)
    · exact .inr (.inr ((fp_kill hK).subset hi))
/-- What End answers, and the blocks behind it. -/
def rendF (Bs : List Blk) (k : Int) : Int × List Blk := match livR Bs k with
  | none => (2, Bs)
  | some y => (0, Bs.set (k - 1).toNat (kill y))
set_option maxHeartbeats 4000000 in
set_option maxRecDepth 100000 in
theorem rEnd_calls (h : RM w r sv Bs) (k : Int) : Calls Try.prog 55 #[.pointer (some ⟨r, 0, none⟩), .int .i64 k] w fun e w' => e = .returned (.int .i64 (rendF Bs k).1) ∧ RDid w w' r sv Bs sv (rendF Bs k).2 := by
  have hc := Lives_calls h k
  unfold rendF
  cases hl : livR Bs k with
  | none =>
    rw [hl] at hc
    have HC := Aside0.mk hc
    have H := Aside0.mk h
    clear h hc hl
    go_enter Try.func55, Try.ntmps55
    go_wp2_with (first | (go_at_call 85; refine HC.out.mono ?_; rintro e w9 ⟨rfl, rfl⟩; simp only [Option.isSome]))
    go_ret
    exact ⟨rfl, RDid.same H.out (by (repeat (first | (with_reducible exact Below.refl _ _) | (with_reducible assumption) | with_reducible apply below_alloc | with_reducible apply pw_below_drewN | with_reducible apply below_drew1)))⟩
  | some y =>
    rw [hl] at hc
    have HC := Aside0.mk hc
    have hdead := (livR_some hl).2.2.2
    obtain ⟨K, hb, cap, rfl, hK, hKl, hsv, hcap, ⟨e4, e5, e6⟩, l1, l2, _, hyB⟩ := livR_at h hl
    obtain ⟨d0, d1⟩ := h.cells
    have hkd := h.kill hK hdead hsv
    rw [show ((K : Int) + 1 - 1).toNat = K by omega]
    have hlk := live_kill hK hdead
    have hm := h.big
    have hfew := h.few
    have hfz1 : w.frozen? ⟨r, 1, none⟩ = false := blk_frozen h.head 1
    have hfz2 : w.frozen? ⟨hb, K * 3 + 1, none⟩ = false ∧ w.frozen? ⟨hb, K * 3 + 2, none⟩ = false := by
      obtain ⟨g', cap', cur, e1, e2, _⟩ := h.at hK
      rw [hsv] at e1
      injection e1 with q1 _ q3
      injection q1 with q1
      injection q1 with q1
      subst q1
      exact ⟨blk_frozen e2 _, blk_frozen e2 _⟩
    obtain ⟨hfz2, hfz3⟩ := hfz2
    have hne : ¬ r = hb := by
      have hnd := h.nodup
      unfold rfoot at hnd
      rw [List.nodup_cons] at hnd
      exact fun e => hnd.1 (by simp [hsv, Value.ownBlock, e])
    have hne' : ¬ hb = r := fun e => hne e.symm
    rw [hsv] at d0
    have HKD := Aside0.mk hkd
    have H := Aside0.mk h
    have hlv : 1 ≤ live Bs := by omega
    have hlv2 : live Bs ≤ 4096 := hfew
    clear h hc hl hK hsv hkd hlk hfew hdead hyB
    go_enter Try.func55, Try.ntmps55
    go_wp2_with (first | (go_at_call 85; refine HC.out.mono ?_; rintro e w9 ⟨rfl, rfl⟩; simp only [Option.isSome]))
    go_ret
    exact ⟨rfl, HKD.out⟩
end Go.Proofs.Ythdnhfjodhjejaa.Ma
