/- Both memories answer alike: plain Lean. No condition beyond those each theorem names. -/
import Derived.Test.YthdnhfjodhjejaaRl
import Derived.Test.YthdnhfjodhjejaaRe
import Derived.Test.YthdnhfjodhjejaaRf
namespace Go.Proofs.Ythdnhfjodhjejaa.Ma
open Go.RowKit Go.Proofs.Ythdnhfjodhjejaa.PMe Go.Proofs.YthdnhfjodhjejaaW.PrintWords Go.Proofs.YthdnhfjodhjejaaW.PrintLast Go.Proofs.YthdnhfjodhjejaaW.PrintMore
set_option linter.unusedVariables false
set_option linter.unusedSimpArgs false
/-- The same blocks, seen from both sides. -/
structure Sim (last : Int) (L : List Rec) (Bs : List Blk) : Prop where
  last : last = Bs.length
  live : L.length = live Bs
  same : ∀ k, (findR L k).map (fun r => (r.al, r.cs)) = (livR Bs k).map (fun y => (y.al, y.cs))
variable {last : Int} {L : List Rec} {Bs : List Blk}
theorem Sim.cases (h : Sim last L Bs) (k : Int) : (findR L k = none ∧ livR Bs k = none) ∨ ∃ r y, findR L k = some r ∧ livR Bs k = some y ∧ r.al = y.al ∧ r.cs = y.cs := by
  have e := h.same k
  cases hf : findR L k with
  | none => rw [hf] at e; cases hl : livR Bs k with
    | none => exact .inl ⟨rfl, rfl⟩
    | some y => rw [hl] at e; cases e
  | some r => rw [hf] at e; cases hl : livR Bs k with
    | none => rw [hl] at e; cases e
    | some y => rw [hl] at e; simp at e; exact .inr ⟨r, y, rfl, rfl, e.1, e.2⟩
theorem Sim.good (h : Sim last L Bs) (x : V3) : (ofR L x = none ∧ goodR Bs x = none) ∨ ∃ r y, ofR L x = some r ∧ goodR Bs x = some y ∧ r.al = y.al ∧ r.cs = y.cs := by
  unfold ofR goodR
  by_cases hk : x.k = 2
  · rw [if_pos hk, if_pos hk]
    rcases h.cases x.b with ⟨h1, h2⟩ | ⟨r, y, h1, h2, h3, h4⟩
    · rw [h1, h2]; exact .inl ⟨rfl, rfl⟩
    · rw [h1, h2, Option.bind_some, Option.bind_some, h4]
      by_cases hv : x.v ≤ y.cs.length
      · rw [if_pos hv, if_pos hv]; exact .inr ⟨r, y, rfl, rfl, h3, h4⟩
      · rw [if_neg hv, if_neg hv]; exact .inl ⟨rfl, rfl⟩
  · rw [if_neg hk, if_neg hk]; exact .inl ⟨rfl, rfl⟩
theorem Sim.at (h : Sim last L Bs) (x : V3) (n wd : Int) (hn : 1 ≤ n) (hp : pow2 wd = true) : (atR L x n wd = none ∧ ratR Bs x n wd = none) ∨ ∃ r y, atR L x n wd = some r ∧ ratR Bs x n wd = some y ∧ r.al = y.al ∧ r.cs = y.cs := by
  unfold atR ratR
  rcases h.good x with ⟨h1, h2⟩ | ⟨r, y, h1, h2, h3, h4⟩
  · rw [h1, h2]; exact .inl ⟨rfl, rfl⟩
  · rw [h1, h2, Option.bind_some, Option.bind_some, h4, h3]
    by_cases hc : n ≤ y.cs.length - x.v ∧ x.v % wd = 0 ∧ wd ≤ y.al
    · rw [if_pos hc, if_pos ⟨hn, hp, hc⟩]; exact .inr ⟨r, y, rfl, rfl, h3, h4⟩
    · rw [if_neg hc, if_neg (fun e => hc e.2.2)]; exact .inl ⟨rfl, rfl⟩
theorem rat_none {Bs : List Blk} {x : V3} {n wd : Int} (h : n < 1 ∨ pow2 wd = false) : ratR Bs x n wd = none := by
  unfold ratR
  cases goodR Bs x with
  | none => rfl
  | some y =>
    rw [Option.bind_some, if_neg]
    rintro ⟨h1, h2, _⟩
    rcases h with h | h
    · omega
    · rw [h] at h2; cases h2
theorem sim_truth (h : Sim last L Bs) (x : V3) : truthF L x = rtruthF Bs x := by
  unfold truthF rtruthF
  rcases h.good x with ⟨h1, h2⟩ | ⟨r, y, h1, h2, _, _⟩ <;> rw [h1, h2] <;> rfl
theorem sim_cells (h : Sim last L Bs) (k : Int) : cellsF L k = rcellsF Bs k := by
  unfold cellsF rcellsF
  rcases h.cases k with ⟨h1, h2⟩ | ⟨r, y, h1, h2, _, h4⟩
  · rw [h1, h2]
  · rw [h1, h2]; simp only; rw [h4]
theorem all_nums {l : List S66} (h : l.all (fun c => c.f0 == 1) = true) : numsL l = l.map fun c => c.f1 % 256 := by
  unfold numsL
  rw [List.filter_eq_self.2 (fun c hc => List.all_eq_true.1 h c hc)]
theorem not_nums {l : List S66} (h : l.all (fun c => c.f0 == 1) = false) : (numsL l).length ≠ l.length := by
  unfold numsL
  rw [List.length_map]
  intro e
  have := List.filter_eq_self.1 (List.filter_sublist.eq_of_length e)
  have h2 : l.all (fun c => c.f0 == 1) = true := List.all_eq_true.2 this
  rw [h] at h2; cases h2
theorem load_eq (l : List S66) (n : Nat) (sg : Bool) (hl : l.length = n) (hn : n = 1 ∨ n = 2 ∨ n = 4) :
    (match ptrF l with | some q => (q, 0) | none => numV l sg) = (if (numsL l).length = n then (⟨1, valR (numsL l) sg, 0⟩, 0) else if (n : Int) = 4 ∧ pts l n = true then (⟨2, (l.getD 0 zC).f1, (l.getD 0 zC).f2⟩, 0) else (V3.z, 3) : V3 × Int) := by
  cases ha : l.all (fun c => c.f0 == 1) with
  | true =>
    have h1 := all_nums ha
    rw [if_pos (by rw [h1, List.length_map, hl])]
    have hp : ptrF l = none := by
      unfold ptrF
      split
      · next c0 c1 c2 c3 =>
        have h0 := List.all_eq_true.1 ha c0 (by simp)
        have h0' : c0.f0 = 1 := by simpa using h0
        rw [if_neg]
        simp [isPart, h0']
      · rfl
    rw [hp]
    unfold numV
    rw [if_pos ha, h1]
    rfl
  | false =>
    rw [if_neg (by rw [← hl]; exact not_nums ha)]
    by_cases h4 : n = 4
    · subst h4
      match l, hl with
      | [c0, c1, c2, c3], _ =>
        have hpt : pts [c0, c1, c2, c3] 4 = (isPart c0 c0.f1 c0.f2 0 && isPart c1 c0.f1 c0.f2 1 && isPart c2 c0.f1 c0.f2 2 && isPart c3 c0.f1 c0.f2 3) := by
          simp only [pts, partB, isPart, List.getD_cons_zero, List.getD_cons_succ, Bool.true_and]
          cases c0.f0 == 2 <;> cases c1.f0 == 2 <;> cases c2.f0 == 2 <;> cases c3.f0 == 2 <;> simp <;> rw [Bool.eq_iff_iff] <;> simp <;> constructor <;> intro h <;> simp_all
        cases hq : (isPart c0 c0.f1 c0.f2 0 && isPart c1 c0.f1 c0.f2 1 && isPart c2 c0.f1 c0.f2 2 && isPart c3 c0.f1 c0.f2 3) with
        | true =>
          rw [if_pos ⟨rfl, by rw [hpt, hq]⟩]
          rw [show ptrF [c0, c1, c2, c3] = some ⟨2, c0.f1, c0.f2⟩ from by unfold ptrF; simp only; rw [if_pos hq]]
          rfl
        | false =>
          rw [if_neg (by rw [hpt, hq]; simp)]
          rw [show ptrF [c0, c1, c2, c3] = none from by unfold ptrF; simp only; rw [if_neg (by rw [hq]; simp)]]
          simp only
          unfold numV
          rw [ha]
          rfl
    · have hp : ptrF l = none := by
        unfold ptrF
        split
        · simp at hl; omega
        · rfl
      rw [if_neg (fun h => h4 (by omega)), hp]
      simp only
      unfold numV
      rw [ha]
      rfl
theorem sim_load (h : Sim last L Bs) (x : V3) (n : Int) (sg : Bool) (h0 : 0 ≤ x.v) : loadF L x n sg = rloadF Bs x n sg := by
  unfold loadF rloadF
  cases hp : pow2 n with
  | false => rw [rat_none (.inr hp)]; rfl
  | true =>
    have hn : n = 1 ∨ n = 2 ∨ n = 4 := by simp only [pow2, Bool.or_eq_true, beq_iff_eq] at hp; omega
    rw [if_pos rfl]
    rcases h.at x n n (by omega) hp with ⟨h1, h2⟩ | ⟨r, y, h1, h2, _, h4⟩
    · rw [h1, h2]
    · rw [h1, h2]
      simp only
      have ht := atR_some h1
      have hlen : (sub y.cs x.v.toNat n.toNat).length = n.toNat := sub_len (by rw [← h4]; omega)
      have := load_eq (sub y.cs x.v.toNat n.toNat) n.toNat sg hlen (by omega)
      unfold bytesAt
      rw [h4]
      rw [show ((n.toNat : Nat) : Int) = n by omega] at this
      exact Eq.trans (by cases ptrF (sub y.cs x.v.toNat n.toNat) <;> rfl) this
theorem sim_bin (h : Sim last L Bs) (op : Int) (a b : V3) : binF L op a b = rbinF Bs op a b := by
  unfold binF rbinF
  cases nmE op with
  | true => rfl
  | false =>
    simp only [Bool.false_eq_true, if_false]
    by_cases ka : a.k = 1
    · rw [if_pos ka, if_pos ka]
      by_cases kb : b.k = 1
      · rw [if_pos kb, if_pos kb]
      · rw [if_neg kb, if_neg kb]
        rcases h.good b with ⟨h1, h2⟩ | ⟨r, y, h1, h2, _, h4⟩
        · rw [h1, h2]
        · rw [h1, h2]
          simp only
          have hk2 := (goodR_some h2).1
          unfold mixedF rmixB movedF rmovedF pick
          rw [if_pos ka, h4]
          simp only [hk2]
          by_cases o1 : op = 1
          · simp [o1]
          · rw [if_neg o1, if_neg o1, if_neg (fun e => absurd e.2 (by omega))]
    · rw [if_neg ka, if_neg ka]
      rcases h.good a with ⟨h1, h2⟩ | ⟨r, y, h1, h2, _, h4⟩
      · rw [h1, h2]
      · rw [h1, h2]
        simp only
        have hk2 := (goodR_some h2).1
        by_cases kb : b.k = 1
        · rw [if_pos kb, if_pos kb]
          unfold mixedF rmixA movedF rmovedF pick
          rw [if_neg ka, h4]
          simp only [hk2]
          by_cases o1 : op = 1
          · simp [o1]
          · rw [if_neg o1, if_neg o1]
            by_cases o2 : op = 2
            · rw [if_pos ⟨o2, kb⟩, if_pos o2]
            · rw [if_neg (fun e => o2 e.1), if_neg o2]
        · rw [if_neg kb, if_neg kb]
          rcases h.good b with ⟨g1, g2⟩ | ⟨s, z, g1, g2, _, g4⟩
          · rw [g1, g2]
          · rw [g1, g2]
            simp only
            unfold ptrsF ptrsN
            rw [h4, g4]
theorem find_add (L : List Rec) (r : Rec) (k : Int) : findR (L ++ [r]) k = (findR L k).or (if r.id = k then some r else none) := by
  unfold findR
  rw [List.find?_append]
  congr 1
  by_cases h : r.id = k
  · rw [if_pos h]; simp [h]
  · rw [if_neg h]; simp [h]
theorem livR_add (Bs : List Blk) (b : Blk) (hb : b.dead = false) (k : Int) : livR (Bs ++ [b]) k = (livR Bs k).or (if (Bs.length : Int) + 1 = k then some b else none) := by
  unfold livR
  by_cases h1 : 1 ≤ k
  · rw [if_pos h1, if_pos h1]
    by_cases h2 : (k - 1).toNat < Bs.length
    · rw [List.getElem?_append_left h2, if_neg (by omega)]; simp
    · rw [List.getElem?_eq_none (by omega : Bs.length ≤ (k - 1).toNat)]
      by_cases h3 : (Bs.length : Int) + 1 = k
      · rw [if_pos h3, List.getElem?_append_right (by omega), show (k - 1).toNat - Bs.length = 0 by omega]
        simp [hb]
      · rw [if_neg h3, List.getElem?_eq_none (by simp; omega)]
        rfl
  · rw [if_neg h1, if_neg h1, if_neg (by omega)]; rfl
theorem sim_make (h : Sim last L Bs) (a : Int) (n : Nat) (b g bo g' : Nat) : Sim (last + 1) (L ++ [⟨last + 1, b, g, a, List.replicate n zC, bo⟩]) (Bs ++ [newB a g' n]) := by
  refine ⟨by rw [h.last]; simp, by rw [List.length_append, live_add, h.live]; rfl, fun k => ?_⟩
  rw [find_add, livR_add _ _ rfl, ← h.last]
  simp only
  rcases h.cases k with ⟨h1, h2⟩ | ⟨r, y, h1, h2, h3, h4⟩
  · rw [h1, h2]
    by_cases e : last + 1 = k
    · rw [if_pos e, if_pos e]; rfl
    · rw [if_neg e, if_neg e]; rfl
  · rw [h1, h2]; simp [h3, h4]
theorem find_drop (L : List Rec) (k k' : Int) : findR (dropR L k) k' = if k' = k then none else findR L k' := by
  unfold findR dropR
  rw [List.find?_filter]
  by_cases e : k' = k
  · rw [if_pos e, List.find?_eq_none]
    intro x _
    intro hh
    simp only [Bool.and_eq_true, bne_iff_ne, beq_iff_eq, decide_eq_true_eq] at hh
    exact hh.1 (hh.2.trans e)
  · rw [if_neg e]
    congr 1
    funext x
    by_cases h : x.id = k'
    · have : x.id ≠ k := fun h' => e (h.symm.trans h')
      simp [h, this]; omega
    · simp [h]
theorem livR_set (Bs : List Blk) {k : Int} {y : Blk} (hy : livR Bs k = some y) (y' : Blk) (k' : Int) : livR (Bs.set (k - 1).toNat y') k' = if k' = k then (if y'.dead then none else some y') else livR Bs k' := by
  obtain ⟨h1, h2, h3, _⟩ := livR_some hy
  unfold livR
  by_cases e : k' = k
  · subst e
    rw [if_pos h1, if_pos rfl, List.getElem?_set_self (by omega), Option.bind_some]
  · rw [if_neg e]
    by_cases h4 : 1 ≤ k'
    · rw [if_pos h4, if_pos h4, List.getElem?_set_ne (by omega)]
    · rw [if_neg h4, if_neg h4]
theorem drop_len {k : Int} {r : Rec} (hn : (L.map Rec.id).Nodup) (hf : findR L k = some r) : (dropR L k).length + 1 = L.length := by
  obtain ⟨j, hj⟩ := look_some_of hf
  have hd := (look_drop hn hj).2
  have := congrArg List.length hd
  have hjl : j < L.length := by
    have key : ∀ (L : List Rec) (i j : Nat) (v : Value), lookI (L.map Rec.ent) k i = some (j, v) → j < i + L.length := by
      intro L
      induction L with
      | nil => intro i j v h; cases h
      | cons x L ih =>
        intro i j v h
        simp only [List.map_cons, lookI] at h
        split at h
        · cases h; simp
        · have := ih _ _ _ h; simp; omega
    have := key L 0 j _ hj
    omega
  rw [List.length_eraseIdx, List.length_map, List.length_map, Nat.sub_zero, if_pos hjl] at this
  omega
theorem sim_end (h : Sim last L Bs) (hn : (L.map Rec.id).Nodup) (k : Int) : (endF L k).1 = (rendF Bs k).1 ∧ Sim last (endF L k).2 (rendF Bs k).2 := by
  unfold endF rendF
  rcases h.cases k with ⟨h1, h2⟩ | ⟨r, y, h1, h2, h3, h4⟩
  · rw [h1, h2]; exact ⟨rfl, h⟩
  · rw [h1, h2]
    refine ⟨rfl, ?_, ?_, ?_⟩
    · simp only [List.length_set]; exact h.last
    · have a := drop_len hn h1
      have b := live_kill (livR_some h2).2.2.1 (livR_some h2).2.2.2
      have c := h.live
      simp only [Option.isSome, if_true]
      omega
    · intro k'
      simp only [Option.isSome, if_true]
      rw [find_drop, livR_set Bs h2]
      by_cases e : k' = k
      · rw [if_pos e, if_pos e]; rfl
      · rw [if_neg e, if_neg e]; exact h.same k'
theorem find_upd (L : List Rec) (id : Int) (cs : List S66) (k : Int) : findR (upd L id cs) k = (findR L k).map fun q => if q.id = id then { q with cs := cs } else q := by
  unfold findR upd
  rw [List.find?_map]
  congr 1
  congr 1
  funext q
  simp only [Function.comp]
  split <;> rfl
theorem sim_upd (h : Sim last L Bs) {k : Int} {r : Rec} {y : Blk} (h1 : findR L k = some r) (h2 : livR Bs k = some y) (h3 : r.al = y.al) (cs : List S66) : Sim last (upd L r.id cs) (updB Bs k cs) := by
  have hy := livR_some h2
  have hr := (find_mem h1).2
  have hu : updB Bs k cs = Bs.set (k - 1).toNat (wr y cs) := by unfold updB; rw [hy.2.2.1]
  rw [hu]
  refine ⟨by rw [List.length_set]; exact h.last, ?_, fun k' => ?_⟩
  · rw [live_set (y := y) (y' := wr y cs) hy.2.2.1 rfl]; unfold upd; rw [List.length_map]; exact h.live
  · rw [find_upd, livR_set Bs h2, Option.map_map]
    by_cases e : k' = k
    · subst e
      rw [if_pos rfl, h1]
      simp [wr, hy.2.2.2, h3]
    · rw [if_neg e, ← h.same k']
      cases hf : findR L k' with
      | none => rfl
      | some q =>
        have hq := (find_mem hf).2
        have : q.id ≠ r.id := by rw [hq, hr]; exact e
        simp [this]
theorem sim_store (h : Sim last L Bs) (x : V3) (n : Int) (v : V3) : (storeF L x n v).1 = (rstoreF Bs x n v).1 ∧ Sim last (storeF L x n v).2 (rstoreF Bs x n v).2 := by
  unfold storeF rstoreF
  cases hp : pow2 n with
  | false => rw [rat_none (.inr hp)]; exact ⟨rfl, h⟩
  | true =>
    have hn : n = 1 ∨ n = 2 ∨ n = 4 := by simp only [pow2, Bool.or_eq_true, beq_iff_eq] at hp; omega
    rw [if_pos rfl]
    rcases h.at x n n (by omega) hp with ⟨h1, h2⟩ | ⟨r, y, h1, h2, h3, h4⟩
    · rw [h1, h2]; exact ⟨rfl, h⟩
    · rw [h1, h2]
      have ho := (atR_some h1).1
      have hf : findR L x.b = some r := by
        unfold ofR at ho
        split at ho
        · obtain ⟨q, hq, ho⟩ := Option.bind_eq_some_iff.mp ho
          split at ho
          · cases ho; exact hq
          · cases ho
        · cases ho
      have hl := (goodR_some (ratR_some h2).1).2.1
      simp only
      rw [h4]
      by_cases c1 : v.k = 1
      · rw [if_pos c1, if_pos c1]; exact ⟨rfl, sim_upd h hf hl h3 _⟩
      · rw [if_neg c1, if_neg c1]
        by_cases c2 : v.k = 2 ∧ n = 4
        · rw [if_pos c2, if_pos c2]; exact ⟨rfl, sim_upd h hf hl h3 _⟩
        · rw [if_neg c2, if_neg c2]; exact ⟨rfl, h⟩
theorem of_find {L : List Rec} {x : V3} {r : Rec} (ho : ofR L x = some r) : findR L x.b = some r := by
  unfold ofR at ho
  split at ho
  · obtain ⟨q, hq, ho⟩ := Option.bind_eq_some_iff.mp ho
    split at ho
    · cases ho; exact hq
    · cases ho
  · cases ho
theorem sim_zero (h : Sim last L Bs) (x : V3) (n : Int) : (zeroF L x n).1 = (rzeroF Bs x n).1 ∧ Sim last (zeroF L x n).2 (rzeroF Bs x n).2 := by
  unfold zeroF rzeroF
  by_cases hn : n < 1
  · rw [if_pos hn, rat_none (.inl hn)]; exact ⟨rfl, h⟩
  · rw [if_neg hn]
    rcases h.at x n 1 (by omega) rfl with ⟨h1, h2⟩ | ⟨r, y, h1, h2, h3, h4⟩
    · rw [h1, h2]; exact ⟨rfl, h⟩
    · rw [h1, h2]
      simp only
      rw [h4]
      exact ⟨trivial, sim_upd h (of_find (atR_some h1).1) (goodR_some (ratR_some h2).1).2.1 h3 _⟩
theorem sim_copy (h : Sim last L Bs) (x y : V3) (n al : Int) : (copyF L x y n al).1 = (rcopyF Bs x y n al).1 ∧ Sim last (copyF L x y n al).2 (rcopyF Bs x y n al).2 := by
  unfold copyF rcopyF
  by_cases hb : n < 1 ∨ pow2 al = false
  · rw [if_pos hb, rat_none hb]; exact ⟨rfl, h⟩
  · rw [if_neg hb]
    have hp : pow2 al = true := by cases hq : pow2 al with
      | true => rfl
      | false => exact absurd (.inr hq) hb
    rcases h.at x n al (by omega) hp with ⟨h1, h2⟩ | ⟨r, p, h1, h2, h3, h4⟩
    · rw [h1, h2]; exact ⟨rfl, h⟩
    · rw [h1, h2]
      rcases h.at y n al (by omega) hp with ⟨g1, g2⟩ | ⟨s, q, g1, g2, _, g4⟩
      · rw [g1, g2]; exact ⟨rfl, h⟩
      · rw [g1, g2]
        simp only
        by_cases c : x.b = y.b ∧ x.v ≠ y.v ∧ x.v < y.v + n ∧ y.v < x.v + n
        · rw [if_pos c, if_pos c]; exact ⟨rfl, h⟩
        · rw [if_neg c, if_neg c, h4, g4]
          exact ⟨rfl, sim_upd h (of_find (atR_some h1).1) (goodR_some (ratR_some h2).1).2.1 h3 _⟩
end Go.Proofs.Ythdnhfjodhjejaa.Ma
