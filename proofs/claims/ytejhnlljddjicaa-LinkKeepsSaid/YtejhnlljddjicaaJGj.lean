/- enc.right and enc.Encode where an immediate does not fit. No condition beyond those each theorem names. And more of the kind: 5 texts in one. -/
import Derived.Test.YtejhnlljddjicaaJGb
import Derived.Test.YtejhnlljddjicaaJGi
import Derived.Laws.CopyOwn
namespace Go.Proofs.Ytejhnlljddjicaa.Ma
open Go.RowKit Go.Proofs.Ytejhnlljddjicaa.PLk Go.Proofs.YtejhnlljddjicaaW.PrintWords Go.Proofs.YtejhnlljddjicaaW.PrintLast Go.Proofs.YtejhnlljddjicaaW.PrintMore Go.Proofs.Ytejhnlljddjicaa.La
set_option linter.unusedVariables false
set_option linter.unusedSimpArgs false
variable {w w' : World} {c pg : Nat} {ps ps' : Pages} {S S' : Cpu} {inp out inp' out' : List Int}
set_option maxHeartbeats 4000000 in
set_option maxRecDepth 100000 in
theorem right_3n (w : World) (op a b d imm : Int) (hf : enc_Form.f 20 op = some 3) (ha : 0 ≤ a ∧ a ≤ 15) (hb : 0 ≤ b ∧ b ≤ 0) (hd : 0 ≤ d ∧ d ≤ 0) (hi : ¬ (-32768 ≤ imm ∧ imm ≤ 32767)) :
  Calls Try.prog 38 #[.agg #[.int .i64 op, .int .i64 a, .int .i64 b, .int .i64 d, .int .i64 imm]] w fun e w' => e = .returned (.bool false) ∧ Below w.heap.size w w' := by
 have HF := Aside0.mk hf
 have HA := Aside0.mk (show decide (0 ≤ a ∧ a ≤ 15) = true by simp; omega)
 have HBB := Aside0.mk (show decide (0 ≤ b ∧ b ≤ 0) = true by simp; omega)
 have HDD := Aside0.mk (show decide (0 ≤ d ∧ d ≤ 0) = true by simp; omega)
 have HI := Aside0.mk hi
 have B0 := Aside0.mk (show Below w.heap.size w (w.alloc (.cells #[.int .i64 op, .int .i64 a, .int .i64 b, .int .i64 d, .int .i64 imm] 36)) from below_alloc (Below.refl _ _) _)
 have R5 := Aside0.mk (show (w.alloc (.cells #[.int .i64 op, .int .i64 a, .int .i64 b, .int .i64 d, .int .i64 imm] 36)).heap[w.heap.size]? = some (.cells #[.int .i64 op, .int .i64 a, .int .i64 b, .int .i64 d, .int .i64 imm] 36 (0, 0)) from heap_at _ _ _ rfl)
 clear hf ha hb hd hi
 go_enter Try.func38, Try.ntmps38
 go_upto_region 1 with (fail)
 generalize (w.alloc (.cells #[.int .i64 op, .int .i64 a, .int .i64 b, .int .i64 d, .int .i64 imm] 36)) = W0 at R5 B0 ⊢
 generalize hg5 : w.heap.size = g5 at R5 ⊢
 have c0 := (blk_cell R5.out 0).trans rfl
 go_wp2_with (first | (go_at_call 35; refine (enc_Form.calls 20 _ _ _ HF.out).mono ?_; rintro e w' ⟨rfl, ⟨nd, rfl⟩⟩) | (go_at_call 36; refine (enc_uses.calls _ _ _ _ _ (show enc_uses.f 3 = some (1, -32768, 32767) from rfl)).mono ?_; rintro e w' ⟨rfl, ⟨ne, rfl⟩⟩; have D0 := Aside0.mk (pm_chain (below_dN W0 nd) (below_dN (W0.drewN nd) ne)); have R6 := Aside0.mk (blk_below R5.out D0.out); have BB := Aside0.mk (pm_chain B0.out D0.out); clear c0 R5 B0 D0; generalize (W0.drewN nd).drewN ne = W1 at R6 BB ⊢; have c1 := (blk_cell R6.out 1).trans rfl; have c2 := (blk_cell R6.out 2).trans rfl; have c3 := (blk_cell R6.out 3).trans rfl; have c4 := (blk_cell R6.out 4).trans rfl))
 have i0 := ix168_0 (.int .i64 a) (.int .i64 b) (.int .i64 d)
 have i1 := ix168_1 (.int .i64 a) (.int .i64 b) (.int .i64 d)
 have i2 := ix168_2 (.int .i64 a) (.int .i64 b) (.int .i64 d)
 refine wp_loop_rounds 4 ?_
 rw [rounds_succ]
 go_wp2_with (first | (go_at_call 48; refine (within_still _ _ _ _).mono ?_; rintro e w' ⟨rfl, rfl⟩; rw [HA.out]))
 rw [rounds_succ]
 go_wp2_with (first | (go_at_call 48; refine (within_still _ _ _ _).mono ?_; rintro e w' ⟨rfl, rfl⟩; rw [HBB.out]))
 rw [rounds_succ]
 go_wp2_with (first | (go_at_call 48; refine (within_still _ _ _ _).mono ?_; rintro e w' ⟨rfl, rfl⟩; rw [HDD.out]))
 rw [rounds_succ]
 have HX := Aside0.mk (show decide ((-32768 : Int) ≤ imm ∧ imm ≤ 32767) = false by have := HI.out; simp; omega)
 go_wp2_with (first | (go_at_call 48; refine (within_still _ _ _ _).mono ?_; rintro e w' ⟨rfl, rfl⟩; rw [HX.out]))
 all_goals go_ret
 all_goals exact ⟨by first | rfl | simp [hm], BB.out⟩
set_option maxHeartbeats 4000000 in
set_option maxRecDepth 100000 in
theorem encode_3n (w : World) (op a b d imm : Int) (hf : enc_Form.f 20 op = some 3) (ha : 0 ≤ a ∧ a ≤ 15) (hb : 0 ≤ b ∧ b ≤ 0) (hd : 0 ≤ d ∧ d ≤ 0) (hi : ¬ (-32768 ≤ imm ∧ imm ≤ 32767)) :
  Calls Try.prog 26 #[.agg #[.int .i64 op, .int .i64 a, .int .i64 b, .int .i64 d, .int .i64 imm]] w fun e w' => e = .returned (.tuple #[.int .u32 0, .int .i64 200]) ∧ Below w.heap.size w w' := by
 have HF := Aside0.mk hf
 have HA := Aside0.mk ha
 have HBB := Aside0.mk hb
 have HDD := Aside0.mk hd
 have HI := Aside0.mk hi
 have B0 := Aside0.mk (show Below w.heap.size w (w.alloc (.cells #[.int .i64 op, .int .i64 a, .int .i64 b, .int .i64 d, .int .i64 imm] 36)) from below_alloc (Below.refl _ _) _)
 have R5 := Aside0.mk (show (w.alloc (.cells #[.int .i64 op, .int .i64 a, .int .i64 b, .int .i64 d, .int .i64 imm] 36)).heap[w.heap.size]? = some (.cells #[.int .i64 op, .int .i64 a, .int .i64 b, .int .i64 d, .int .i64 imm] 36 (0, 0)) from heap_at _ _ _ rfl)
 clear hf ha hb hd hi
 go_enter Try.func26, Try.ntmps26
 go_upto_region 1 with (fail)
 generalize (w.alloc (.cells #[.int .i64 op, .int .i64 a, .int .i64 b, .int .i64 d, .int .i64 imm] 36)) = W0 at R5 B0 ⊢
 generalize hg5 : w.heap.size = g5 at R5 ⊢
 have c0 := (blk_cell R5.out 0).trans rfl
 have c1 := (blk_cell R5.out 1).trans rfl
 have c2 := (blk_cell R5.out 2).trans rfl
 have c3 := (blk_cell R5.out 3).trans rfl
 have c4 := (blk_cell R5.out 4).trans rfl
 go_wp2_with (first | (go_at_call 38; refine (right_3n _ _ _ _ _ _ HF.out HA.out HBB.out HDD.out HI.out).mono ?_; rintro e W1 ⟨rfl, hb⟩; have BB := Aside0.mk (pm_chain B0.out hb)))
 go_ret2
 exact ⟨rfl, hg5 ▸ BB.out⟩
end Go.Proofs.Ytejhnlljddjicaa.Ma
namespace Go.Proofs.Ytejhnlljddjicaa.Ma
open Go.RowKit Go.Maps Go.WideMaps Go.WideElems Go.ChangeMaps Go.ChangeShapes Go.WideShapes Go.Proofs.Ytejhnlljddjicaa.PLk Go.Proofs.YtejhnlljddjicaaW.PrintWords Go.Proofs.YtejhnlljddjicaaW.PrintLast Go.Proofs.YtejhnlljddjicaaW.PrintMore Go.Proofs.Ytejhnlljddjicaa.La
set_option linter.unusedVariables false
set_option linter.unusedSimpArgs false
variable {w w' W : World} {base pb : Nat} {lv av : Value} {nb : Nat} {code over : Int} {ats : List (Int × Int)} {L : List (ByteArray × Int × Bool)}
def unkF (L : List (ByteArray × Int × Bool)) (x : FixV) : Bool := (look L x.name).isNone
/-- A name's place, or the zero one. -/
def placeF (L : List (ByteArray × Int × Bool)) (s : ByteArray) : Int × Bool := (look L s).getD (0, false)
theorem PlanR.look_ok (h : PlanR w base pb lv av nb code over ats L) (s : ByteArray) (hs : s.size ≤ 140737488355328) : (Instr.lookup 56 (.map (some nb)) (.string s) true).run Try.prog w = .ok (.tuple #[placeV (placeF L s), .bool (look L s).isSome]) w := by
 obtain ⟨kl, hkey⟩ := key9 s hs
 rw [h.names.look_ok law9 Try.underlying56 zero54 hkey]
 simp only [nameM, placeF]
 cases look L s <;> rfl
theorem PlanR.look (h : PlanR w base pb lv av nb code over ats L) (s : ByteArray) (hs : s.size ≤ 140737488355328) : (Instr.lookup 56 (.map (some nb)) (.string s) false).run Try.prog w = .ok (placeV (placeF L s)) w := by
 obtain ⟨kl, hkey⟩ := key9 s hs
 rw [h.names.look law9 Try.underlying56 zero54 hkey]
 simp only [nameM, placeF]
 cases Ma.look L s <;> rfl
set_option maxHeartbeats 4000000 in
set_option maxRecDepth 100000 in
theorem unknown_calls (h : PlanR w base pb lv av nb code over ats L) (x : FixV) (hs : x.name.size ≤ 140737488355328) :
  Calls Try.prog 11 #[.pointer (some ⟨pb, 0, none⟩), .agg #[.int .i64 x.kind, .int .i64 x.off, .string x.name, .int .i64 x.add]] w fun e w' => e = .returned (.bool (unkF L x)) ∧ Below w.heap.size w w' := by
 obtain ⟨kind, off, name, add⟩ := x
 simp only at hs ⊢
 have R3 := Aside0.mk (show (w.alloc (.cells #[.int .i64 kind, .int .i64 off, .string name, .int .i64 add] 46)).heap[w.heap.size]? = some (.cells #[.int .i64 kind, .int .i64 off, .string name, .int .i64 add] 46 (0, 0)) from heap_at _ _ _ rfl)
 have P1 := Aside0.mk (h.below (below_alloc (Below.refl _ _) (.cells #[.int .i64 kind, .int .i64 off, .string name, .int .i64 add] 46)))
 have B1 := Aside0.mk (show Below w.heap.size w (w.alloc (.cells #[.int .i64 kind, .int .i64 off, .string name, .int .i64 add] 46)) from below_alloc (Below.refl _ _) _)
 have HS := Aside0.mk hs
 obtain ⟨ub, hub⟩ : ∃ ub, unkF L ⟨kind, off, name, add⟩ = ub := ⟨_, rfl⟩
 have HUB := Aside0.mk (show (Ma.look L name).isSome = !ub by rw [← hub]; unfold unkF; simp)
 rw [hub]
 clear h hs hub
 go_enter Try.func11, Try.ntmps11
 go_upto_region 1 with (fail)
 generalize w.alloc (.cells #[.int .i64 kind, .int .i64 off, .string name, .int .i64 add] 46) = W1 at R3 P1 B1 ⊢
 generalize hg3 : w.heap.size = g3 at R3 ⊢
 have HDR := Aside0.mk P1.out.drew
 have p4 : W1.drew.cell? ⟨pb, 4, none⟩ = some (.map (some nb)) := (blk_cell HDR.out.head 4).trans rfl
 have z2 : W1.drew.cell? ⟨g3, 2, none⟩ = some (.string name) := (blk_cell (w := W1.drew) R3.out 2).trans rfl
 have p4a : (W1.alloc (.cells #[.int .i64 0, .bool false] 54)).cell? ⟨pb, 4, none⟩ = some (.map (some nb)) := pw_cell_below (w := W1) (below_alloc (Below.refl _ _) _) p4
 have z2a : (W1.alloc (.cells #[.int .i64 0, .bool false] 54)).cell? ⟨g3, 2, none⟩ = some (.string name) := pw_cell_below (w := W1) (below_alloc (Below.refl _ _) _) z2
 have hl0 := HDR.out.look_ok name HS.out
 have hl1 := (P1.out.below (below_alloc (Below.refl _ _) (.cells #[.int .i64 0, .bool false] 54))).look_ok name HS.out
 have hl2 := (P1.out.below (below_drew (below_alloc (Below.refl _ _) (.cells #[.int .i64 0, .bool false] 54)))).look_ok name HS.out
 obtain ⟨⟨pv, pc⟩, hpp⟩ : ∃ pp, placeF L name = pp := ⟨_, rfl⟩
 rw [hpp, HUB.out] at hl0 hl1 hl2
 simp only [placeV] at hl0 hl1 hl2
 clear hpp
 cases ub
 ·simp only [Bool.not_false] at hl0 hl1 hl2
  go_region
  all_goals go_wp2_with (fail)
  all_goals go_ret
  all_goals exact ⟨rfl, below_drew (below_alloc B1.out _)⟩
 ·simp only [Bool.not_true] at hl0 hl1 hl2
  go_region
  all_goals go_wp2_with (fail)
  all_goals go_ret
  all_goals exact ⟨rfl, below_drew (below_alloc B1.out _)⟩
set_option maxHeartbeats 4000000 in
set_option maxRecDepth 100000 in
theorem findex_calls (h : PlanR w base pb lv av nb code over ats L) (A : Option Addr) (cap : Nat) (xs : List FixV) (hF : FixesR w A xs) (hI : ∀ x ∈ xs, x.In) (hl : xs.length ≤ 140737488355328) :
  Calls Try.prog 22 #[.slice A xs.length cap, .func (.func 11) #[.pointer (some ⟨pb, 0, none⟩)] #[]] w fun e w' => (∃ r : Int, e = .returned (.int .i64 r) ∧ decide (0 ≤ r) = xs.any (unkF L)) ∧ Below w.heap.size w w' := by
 obtain ⟨n, hn⟩ : ∃ n, n = xs.length := ⟨_, rfl⟩
 rw [← hn]
 have HF := Aside0.mk hF
 have HP := Aside0.mk h
 have HI := Aside0.mk hI
 have hl2 : (n : Int) ≤ 140737488355328 := by omega
 have HN := Aside0.mk hn
 clear h hF hI hl hn
 go_enter Try.func22, Try.ntmps22
 go_wp2_with (fail)
 go_loopg [8] n (fun kq v8 wr => ∃ j : Nat, j + kq = n ∧ v8 = .int .i64 j ∧ Aside0 (Below w.heap.size w wr) ∧ Aside0 (∀ (k : Nat) (x : FixV), k < j → xs[k]? = some x → unkF L x = false))
 case atStart => exact ⟨0, by omega, rfl, ⟨Below.refl _ _⟩, ⟨fun k x hk => absurd hk (Nat.not_lt_zero k)⟩⟩
 case round =>
  obtain ⟨j, hj, rfl, HB, HBd⟩ := hrel
  have HJ := Aside0.mk hj
  clear hj
  by_cases hlt : j < n
  ·obtain ⟨x, hx⟩ : ∃ x, xs[j]? = some x := ⟨_, List.getElem?_eq_getElem (by have := HN.out; omega)⟩
   obtain ⟨ad, hA, c0, c1, c2, c3⟩ := (HF.out.below HB.out).at hx
   have HX := Aside0.mk hx
   have HLT := Aside0.mk hlt
   have hlt2 : (j : Int) < (n : Int) := by omega
   have CK := Aside0.mk (unknown_calls (HP.out.below HB.out) x (HI.out x (List.mem_of_getElem? hx)).1)
   obtain ⟨ub, hub⟩ : ∃ ub, unkF L x = ub := ⟨_, rfl⟩
   have HUB := Aside0.mk hub
   rw [hub] at CK
   subst hA
   clear hx hlt hub
   cases ub
   ·go_wp2_with (first | (go_at_call 11; refine CK.out.mono ?_; rintro e w' ⟨rfl, hb⟩; have B2 := Aside0.mk (HB.out.trans (hb.mono HB.out.size)); clear hb))
    go_roundg (n - (j + 1))
    case measure => have := HJ.out; have := HLT.out; omega
    case rel =>
     refine ⟨j + 1, by have := HJ.out; have := HLT.out; omega, by simp, B2, ⟨fun k y hk hy => ?_⟩⟩
     rcases Nat.lt_succ_iff_lt_or_eq.1 hk with h | h
     ·exact HBd.out k y h hy
     ·subst h
      rw [HX.out] at hy
      injection hy with hy
      subst hy
      exact HUB.out
   ·go_wp2_with (first | (go_at_call 11; refine CK.out.mono ?_; rintro e w' ⟨rfl, hb⟩; have B2 := Aside0.mk (HB.out.trans (hb.mono HB.out.size)); clear hb))
    go_ret
    exact ⟨⟨_, rfl, by rw [List.any_eq_true.2 ⟨x, List.mem_of_getElem? HX.out, HUB.out⟩]; simp⟩, B2.out⟩
  ·obtain rfl : j = n := by have := HJ.out; omega
   have hlt2 : ¬ ((j : Int) < (j : Int)) := by omega
   clear hlt
   go_wp2_with (fail)
   go_ret
   refine ⟨⟨_, rfl, ?_⟩, HB.out⟩
   rw [List.any_eq_false.2 (fun x hx => ?_)]
   ·rfl
   ·obtain ⟨k, hk, rfl⟩ := List.getElem_of_mem hx
    simp [HBd.out k _ (by have := HN.out; omega) (List.getElem?_eq_getElem hk)]
set_option maxHeartbeats 4000000 in
set_option maxRecDepth 100000 in
theorem fcontains_calls (h : PlanR w base pb lv av nb code over ats L) (A : Option Addr) (cap : Nat) (xs : List FixV) (hF : FixesR w A xs) (hI : ∀ x ∈ xs, x.In) (hl : xs.length ≤ 140737488355328) :
  Calls Try.prog 10 #[.slice A xs.length cap, .func (.func 11) #[.pointer (some ⟨pb, 0, none⟩)] #[]] w fun e w' => e = .returned (.bool (xs.any (unkF L))) ∧ Below w.heap.size w w' := by
 have X := Aside0.mk (findex_calls h A cap xs hF hI hl)
 clear h hF hI hl
 go_enter Try.func10, Try.ntmps10
 go_wp2_with (first | (go_at_call 22; refine X.out.mono ?_; rintro e w' ⟨⟨r, rfl, hr⟩, hb⟩; have HR := Aside0.mk hr; have BB := Aside0.mk hb; clear hr hb))
 go_ret
 exact ⟨by rw [← HR.out]; rfl, BB.out⟩
end Go.Proofs.Ytejhnlljddjicaa.Ma
namespace Go.Proofs.Ytejhnlljddjicaa.Ma
open Go.RowKit Go.Maps Go.WideMaps Go.WideElems Go.ChangeMaps Go.ChangeShapes Go.WideShapes Go.Proofs.Ytejhnlljddjicaa.PLk Go.Proofs.YtejhnlljddjicaaW.PrintWords Go.Proofs.YtejhnlljddjicaaW.PrintLast Go.Proofs.YtejhnlljddjicaaW.PrintMore Go.Proofs.Ytejhnlljddjicaa.La
set_option linter.unusedVariables false
set_option linter.unusedSimpArgs false
variable {w w' W : World}
def bytesV (l : List Int) : List Value := l.map fun b => .int .u8 b
/-- A word's bytes, the low one first. -/
def wordB (v : Int) : List Int := [v % 256, v / 256 % 256, v / 65536 % 256, v / 16777216 % 256]
/-- An image with a word put at a. -/
def putI (img : List Int) (a : Nat) (v : Int) : List Int := img.take a ++ (wordB v ++ img.drop (a + 4))
theorem putI_length (img : List Int) (a : Nat) (v : Int) (h : a + 4 ≤ img.length) : (putI img a v).length = img.length := by
 unfold putI wordB
 simp
 omega
theorem bytes_is (v : Int) : word_Bytes.f 10 v 4 = some (wordB v) := by
 unfold word_Bytes.f wordB
 simp [word_Bytes.j0, word_Bytes.l0, wrap64, Go.Proofs.YtejhnlljddjicaaW.PrintWords.rd]
theorem bytesV_put (img : List Int) (a : Nat) (v : Int) : bytesV (putI img a v) = (bytesV img).take a ++ (bytesV (wordB v) ++ (bytesV img).drop (a + 4)) := by
 unfold bytesV putI
 simp only [List.map_append, List.map_take, List.map_drop]
theorem grow_trans {a b c : World} {g : Nat} (h : a.grownBy b (some g)) (k : b.grownBy c (some g)) : a.grownBy c (some g) :=
 ⟨k.os.trans h.os, k.tape.trans h.tape, k.output.trans h.output, Nat.le_trans h.size k.size, fun i hi hn => (k.block i (Nat.lt_of_lt_of_le hi h.size) hn).trans (h.block i hi hn)⟩
theorem grow_below {a b : World} {g : Nat} (h : Below a.heap.size a b) : a.grownBy b (some g) := ⟨h.os, h.tape, h.output, h.size, fun i hi _ => h.block i hi⟩
theorem grow_set {a : World} {g : Nat} (cs : Array Value) : a.grownBy (a.setRow g cs) (some g) := ⟨rfl, rfl, rfl, by simp [World.setRow], fun i _ hn => setRow_other a g i cs (fun e => hn (by rw [e]))⟩
/-- An image in the world. -/
structure Img (w : World) (g n : Nat) (img : List Int) : Prop where
 row : w.heap[g]? = some (.cells (bytesV img).toArray 5 (0, 0))
 len : img.length = n
theorem Img.below {g n : Nat} {img : List Int} (h : Img w g n img) (k : Below w.heap.size w W) : Img W g n img := ⟨blk_below h.row k, h.len⟩
theorem copy_word {g n : Nat} {img : List Int} (h : Img w g n img) {ad : Addr} {v : Int} (hC : Kd.C (Kd.int .u8) w (some ad) (wordB v).length (wordB v)) {a : Nat} (ha : a + 4 ≤ n) (cc : Nat) :
  (Builtin.copy_ #[23, 23] 3 #[.slice (some ⟨g, a, none⟩) (n - a) (n - a), .slice (some ad) (wordB v).length cc]).run Try.prog w = .ok (goInt 4) (w.setRow g (bytesV (putI img a v)).toArray) := by
 have hr := run_copy_row (P := Try.prog) w 23 23 3 5 g a (n - a) (n - a) ad (wordB v).length cc (bytesV img).toArray 5 (bytesV (wordB v)) Try.underlying23 (by kernel_rfl) h.row (by show _ = min _ _; rw [Nat.min_eq_left (by simp [wordB]; omega)]; simp [bytesV]) (fun j u hj => ?_) (by have := h.len; simp [bytesV, wordB]; omega) (by intro u hu; obtain ⟨b, _, rfl⟩ := List.mem_map.1 hu; rfl)
 ·rw [hr, bytesV_put]
  simp [bytesV, wordB]
 ·unfold bytesV at hj
  rw [List.getElem?_map] at hj
  cases hb : (wordB v)[j]? with
  | none => rw [hb] at hj; cases hj
  | some b =>
   rw [hb] at hj
   simp only [Option.map_some, Option.some.injEq] at hj
   subst hj
   obtain ⟨ad', e, hc⟩ := C_at hC hb
   injection e with e
   rw [e]
   exact hc
set_option maxHeartbeats 4000000 in
set_option maxRecDepth 100000 in
theorem put_calls {g n : Nat} {img : List Int} (h : Img w g n img) (a : Nat) (ha : a + 4 ≤ n) (hn : n ≤ 140737488355328) (addr v : Int) (hA : addr = 4096 + (a : Int)) :
  Calls Try.prog 12 #[.slice (some ⟨g, 0, none⟩) n n, .int .i64 addr, .int .u32 v] w fun e w' => e = .returned (.tuple #[]) ∧ Img w' g n (putI img a v) ∧ w.grownBy w' (some g) := by
 have HI := Aside0.mk h
 have HA := Aside0.mk ha
 have hw1 : IntKind.i64.wrap (addr - 4096) = (a : Int) := by rw [hA]; exact (show IntKind.i64.wrap (4096 + (a : Int) - 4096) = (a : Int) by rw [show (4096 : Int) + (a : Int) - 4096 = a by omega]; exact IntWalk.i64_in _ (by omega))
 have hsl : ∀ W : World, (Instr.slice 23 (.slice (some ⟨g, 0, none⟩) n n) (some (.int .i64 (a : Int))) none none).run Try.prog W = .ok (.slice (some ⟨g, a, none⟩) (n - a) (n - a)) W := by
  intro W
  obtain ⟨i, hi, _, hs, _⟩ := info5
  rw [cut_from (P := Try.prog) 23 5 .i64 Try.underlying23 hi 1 hs (some ⟨g, 0, none⟩) n n (a : Int) (by omega) (by omega) W]
  simp only [Int.toNat_natCast]
  rw [if_neg (by omega)]
  simp [Addr.add]
  try omega
 have CB := Aside0.mk (fun W : World => word_Bytes.calls 10 v 4 (wordB v) W (bytes_is v))
 clear h ha hA
 go_enter Try.func12, Try.ntmps12
 go_upto_region 0 with (fail)
 go_region_with ((go_at_call 23; refine (CB.out _).mono ?_; rintro e W1 ⟨v0, rfl, hR, hB⟩; obtain ⟨ad, cc, rfl⟩ := Kd.R_slice1 hR (by simp [wordB]); have HC := Aside0.mk (Kd.R_reads' hR).2.2; have HB := Aside0.mk (show Below w.heap.size w W1 from ⟨hB.os, hB.tape, hB.output, hB.size, hB.block⟩); clear hR hB; have HI1 := Aside0.mk (HI.out.below HB.out); have hcp := copy_word HI1.out HC.out HA.out cc))
 all_goals go_end0
 all_goals exact ⟨rfl, ⟨setRow_heap _ _ _ _ _ _ HI1.out.row, by rw [putI_length _ _ _ (by rw [HI.out.len]; exact HA.out)]; exact HI.out.len⟩, grow_trans (grow_below HB.out) (grow_set _)⟩
end Go.Proofs.Ytejhnlljddjicaa.Ma
namespace Go.Proofs.Ytejhnlljddjicaa.Ma
open Go.RowKit Go.Maps Go.WideMaps Go.WideElems Go.ChangeMaps Go.ChangeShapes Go.WideShapes Go.Proofs.Ytejhnlljddjicaa.PLk Go.Proofs.YtejhnlljddjicaaW.PrintWords Go.Proofs.YtejhnlljddjicaaW.PrintLast Go.Proofs.YtejhnlljddjicaaW.PrintMore Go.Proofs.Ytejhnlljddjicaa.La
set_option linter.unusedVariables false
set_option linter.unusedSimpArgs false
variable {w w' W : World} {base pb : Nat} {lv av : Value} {nb : Nat} {code over : Int}
/-- A fix of an image: none where an immediate does not fit. -/
def fixF (ls : List ObjV) (j : Nat) (o : ObjV) (x : FixV) (img : List Int) : Option (List Int) :=
 let t := (placeF (namesN ls ls.length) x.name).1 + x.add
 let h := codeN ls j + x.off
 let i := (instrF o x.off).getD zero5
 if x.kind = 1 then some (putI img (dataN ls j - 4096 + x.off).toNat (t % 4294967296))
 else if x.kind = 2 then some (putI (putI img h.toNat (encW false 64 i.a 0 0 (IntKind.i16.wrap (t % 4294967296)))) (h + 4).toNat (encW false 65 i.a 0 0 (t % 4294967296 / 65536)))
 else if (t - (4096 + h) - 4) % 4 ≠ 0 then none
 else if x.kind = 3 then some (putI img h.toNat (encW true i.op 0 0 0 ((t - (4096 + h) - 4) / 4)))
 else if -32768 ≤ (t - (4096 + h) - 4) / 4 ∧ (t - (4096 + h) - 4) / 4 ≤ 32767 then some (putI img h.toNat (encW false i.op i.a 0 0 ((t - (4096 + h) - 4) / 4)))
 else none
theorem dec_far {v : Int} {i : I5} (hv : 0 ≤ v ∧ v < 4294967296) (h : decF v = some i) (ho : i.op = 96 ∨ i.op = 99) : i.a = 0 ∧ i.b = 0 ∧ i.c = 0 := by
 have e := (dec_op hv h).1
 have hf : enc_Form.f 20 (v % 256) = some 5 := by rw [← e]; rcases ho with h | h <;> rw [h] <;> rfl
 rw [dec_is5 v hv hf] at h
 split at h
 ·injection h with h
  subst h
  exact ⟨rfl, rfl, rfl⟩
 ·cases h
theorem dec_near {v : Int} {i : I5} (hv : 0 ≤ v ∧ v < 4294967296) (h : decF v = some i) (ho : i.op = 64 ∨ i.op = 97 ∨ i.op = 98) : i.a < 16 ∧ i.b = 0 ∧ i.c = 0 := by
 have e := (dec_op hv h).1
 have hf : enc_Form.f 20 (v % 256) = some 3 := by rw [← e]; rcases ho with h | h | h <;> rw [h] <;> rfl
 refine ⟨(dec_op hv h).2.a, ?_⟩
 rw [dec_is3 v hv hf] at h
 split at h
 ·injection h with h
  subst h
  exact ⟨rfl, rfl⟩
 ·cases h
theorem instr_at {o : ObjV} (hI : o.In) {f : Int} {i : I5} (h : instrF o f = some i) : ∃ k v : Nat, f = 4 * (k : Int) ∧ o.code[k]? = some (v : Int) ∧ (v : Int) < 4294967296 ∧ decF v = some i := by
 unfold instrF at h
 split at h
 ·cases h
 ·next hc =>
  have hk : (f / 4).toNat < o.code.length := by omega
  have hg := List.getElem?_eq_getElem hk
  have hr := hI.code _ (List.mem_of_getElem? hg)
  rw [hg] at h
  refine ⟨(f / 4).toNat, (o.code[(f / 4).toNat]).toNat, by omega, by rw [hg]; congr 1; omega, by omega, ?_⟩
  rw [show ((o.code[(f / 4).toNat]).toNat : Int) = o.code[(f / 4).toNat] by omega]
  exact h
theorem field54 (n : Int) (b : Bool) (W : World) : (Instr.field 54 (.agg #[.int .i64 n, .bool b]) 0).run Try.prog W = .ok (.int .i64 n) W := by kernel_rfl
theorem of_still (n : Int) (w : World) : Calls Try.prog 24 #[.int .i64 n] w fun e w' => e = .returned (.int .u32 (n % 4294967296)) ∧ w' = w := by
 have H := Aside0.mk (IntKind.wrap_u32 n)
 go_enter Try.func24, Try.ntmps24
 go_wp2
 go_ret
 exact ⟨by first | rfl | (rw [← H.out]; rfl), rfl⟩
theorem i16_in (u : Int) : -32768 ≤ IntKind.i16.wrap u ∧ IntKind.i16.wrap u ≤ 32767 := by
 simp only [IntKind.wrap, IntKind.bits, IntKind.signed]
 simp
 split <;> omega
theorem quot_in (r q : Int) (h : -4194304 ≤ r ∧ r ≤ 4194304) (hq : wrap64 (r.tdiv 4) = q) : -1048577 ≤ q ∧ q ≤ 1048577 ∧ (r % 4 = 0 → q = r / 4) := by
 rw [← hq]
 rcases Int.lt_or_le r 0 with h0 | h0
 ·have e : r.tdiv 4 = -((-r) / 4) := by
   have : r = -(-r) := by omega
   rw [this, Int.neg_tdiv, Int.tdiv_eq_ediv_of_nonneg (by omega)]
   simp
  rw [e]; unfold wrap64; omega
 ·rw [Int.tdiv_eq_ediv_of_nonneg h0]; unfold wrap64; omega
theorem rem_in (r m : Int) (hm : Int.tmod r 4 = m) : -3 ≤ m ∧ m ≤ 3 ∧ (m = 0 ↔ r % 4 = 0) := by
 rcases Int.lt_or_le r 0 with h0 | h0
 ·have e : Int.tmod r 4 = -((-r) % 4) := by
   have : r = -(-r) := by omega
   rw [this, Int.neg_tmod, Int.tmod_eq_emod_of_nonneg (by omega)]
   simp
  rw [e] at hm; omega
 ·rw [Int.tmod_eq_emod_of_nonneg h0] at hm; omega
/-- What a fix asks of the world. -/
structure FixIn (w : World) (base pb : Nat) (lv av : Value) (nb : Nat) (code over : Int) (A : Option Addr) (ls : List ObjV) (j : Nat) (o : ObjV) (x : FixV) (g N : Nat) (img : List Int) : Prop where
 plan : PlanR w base pb lv av nb code over (atsN ls ls.length) (namesN ls ls.length)
 objs : ObjsR w A ls
 at_ : ls[j]? = some o
 objIn : o.In
 fixIn : x.In
 fits : (fitsF o x).2 = true
 image : Img w g N img
 most : N ≤ 1048576
 codeIn : 0 ≤ codeN ls j ∧ codeN ls j + 4 * (o.code.length : Int) ≤ N
 dataIn : x.kind = 1 → 0 ≤ dataN ls j - 4096 ∧ dataN ls j - 4096 + (o.data.length : Int) ≤ N
 dataLe : 0 ≤ dataN ls j ∧ dataN ls j ≤ 4000000000000000000
 place : 0 ≤ (placeF (namesN ls ls.length) x.name).1 ∧ (placeF (namesN ls ls.length) x.name).1 ≤ 2097152
theorem fits_name {o : ObjV} {x : FixV} (h : (fitsF o x).2 = true) : -1048576 ≤ x.add ∧ x.add ≤ 1048576 := by
 unfold fitsF at h
 split at h
 ·cases h
 ·omega
theorem fits_cases {o : ObjV} {x : FixV} (h : (fitsF o x).2 = true) : (x.kind = 1 ∧ 0 ≤ x.off ∧ x.off ≤ (o.data.length : Int) - 4) ∨
  (x.kind = 2 ∧ ∃ i i2, instrF o x.off = some i ∧ instrF o (x.off + 4) = some i2 ∧ i.op = 64) ∨
  (x.kind = 3 ∧ ∃ i, instrF o x.off = some i ∧ (i.op = 96 ∨ i.op = 99)) ∨
  (x.kind = 4 ∧ ∃ i, instrF o x.off = some i ∧ (i.op = 97 ∨ i.op = 98)) := by
 unfold fitsF at h
 split at h
 ·cases h
 split at h
 ·next k1 =>
  simp only [Bool.and_eq_true, decide_eq_true_eq] at h
  exact .inl ⟨k1, h.1.1, h.1.2⟩
 split at h
 ·next k2 =>
  split at h
  ·cases h
  ·simp only [Bool.and_eq_true] at h
   obtain ⟨i2, hi2⟩ := Option.isSome_iff_exists.1 h.1.1
   cases hi : instrF o x.off with
   | none => rw [hi] at h; simp [zero5, isLi] at h
   | some i =>
    rw [hi] at h
    simp only [Option.getD_some, isLi, Bool.and_eq_true, beq_iff_eq] at h
    exact .inr (.inl ⟨k2, i, i2, rfl, hi2, h.1.2.1⟩)
 split at h
 ·next k3 =>
  simp only [Bool.and_eq_true, Bool.or_eq_true, beq_iff_eq] at h
  obtain ⟨i, hi⟩ := Option.isSome_iff_exists.1 h.1.1.1
  rw [hi] at h
  exact .inr (.inr (.inl ⟨k3, i, hi, by simpa using h.2⟩))
 split at h
 ·next k4 =>
  simp only [Bool.and_eq_true, Bool.or_eq_true, beq_iff_eq] at h
  obtain ⟨i, hi⟩ := Option.isSome_iff_exists.1 h.1.1.1
  rw [hi] at h
  exact .inr (.inr (.inr ⟨k4, i, hi, by simpa using h.2⟩))
 ·cases h
set_option maxHeartbeats 8000000 in
set_option maxRecDepth 100000 in
theorem fix_calls {A : Option Addr} {cap : Nat} {ls : List ObjV} {j : Nat} {o : ObjV} {x : FixV} {g N : Nat} {img : List Int} (h : FixIn w base pb (.slice A ls.length cap) av nb code over A ls j o x g N img) :
  Calls Try.prog 13 #[.pointer (some ⟨pb, 0, none⟩), .slice (some ⟨g, 0, none⟩) N N, .int .i64 j, .agg #[.int .i64 x.kind, .int .i64 x.off, .string x.name, .int .i64 x.add]] w fun e w' =>
   ((∃ img', fixF ls j o x img = some img' ∧ e = .returned (.int .i64 0) ∧ Img w' g N img') ∨ (fixF ls j o x img = none ∧ e = .returned (.int .i64 222))) ∧ w.grownBy w' (some g) := by
 obtain ⟨kind, off, name, add⟩ := x
 have X := Aside0.mk h
 have had := fits_name h.fits
 have hpl := h.place
 have hcd := h.codeIn
 have hoff := fits_off h.objIn h.fits
 have hjl : (j : Int) < (ls.length : Int) := by have := (List.getElem?_eq_some_iff.1 h.at_).1; omega
 simp only at had hpl hoff
 obtain ⟨⟨pl, pc⟩, hpp⟩ : ∃ pp, placeF (namesN ls ls.length) name = pp := ⟨_, rfl⟩
 have HPP := Aside0.mk hpp
 rw [hpp] at hpl
 simp only at hpl
 have hw1 : IntKind.i64.wrap (pl + add) = pl + add := IntWalk.i64_in _ (by omega)
 have hw2 : IntKind.i64.wrap (4096 + codeN ls j + off) = 4096 + codeN ls j + off := IntWalk.i64_in _ (by have := h.most; have := h.objIn.ncode; omega)
 have HB := Aside0.mk (And.intro had (And.intro hpl (And.intro hcd hoff)))
 have R7 := Aside0.mk (show (w.alloc (.cells #[.int .i64 kind, .int .i64 off, .string name, .int .i64 add] 46)).heap[w.heap.size]? = some (.cells #[.int .i64 kind, .int .i64 off, .string name, .int .i64 add] 46 (0, 0)) from heap_at _ _ _ rfl)
 have P1 := Aside0.mk (h.plan.below (below_alloc (Below.refl _ _) (.cells #[.int .i64 kind, .int .i64 off, .string name, .int .i64 add] 46)))
 have B1 := Aside0.mk (show Below w.heap.size w (w.alloc (.cells #[.int .i64 kind, .int .i64 off, .string name, .int .i64 add] 46)) from below_alloc (Below.refl _ _) _)
 obtain ⟨ad, q, hA, hR, y0, y1, y2, y3⟩ := h.objs.each j o h.at_
 have HR := Aside0.mk hR
 have Y := Aside0.mk (And.intro y0 (And.intro y1 (And.intro y2 y3)))
 subst hA
 clear h had hpl hcd hoff hpp hR y0 y1 y2 y3
 go_enter Try.func13, Try.ntmps13
 go_upto_region 1 with (fail)
 generalize w.alloc (.cells #[.int .i64 kind, .int .i64 off, .string name, .int .i64 add] 46) = W1 at R7 P1 B1 ⊢
 generalize hg7 : w.heap.size = g7 at R7 ⊢
 have G7 := Aside0.mk hg7
 clear hg7
 have p4 : W1.cell? ⟨pb, 4, none⟩ = some (.map (some nb)) := (blk_cell P1.out.head 4).trans rfl
 have z2 : W1.cell? ⟨g7, 2, none⟩ = some (.string name) := (blk_cell R7.out 2).trans rfl
 have z3 : W1.cell? ⟨g7, 3, none⟩ = some (.int .i64 add) := (blk_cell R7.out 3).trans rfl
 have hl := P1.out.drew.look name X.out.fixIn.1
 rw [HPP.out] at hl
 simp only [placeV] at hl
 have hfd := field54 pl pc
 refine wp_region_still_tail 11 (by kernel_rfl) (by kernel_rfl) ?_
 simp only [List.take_succ_cons, List.take_zero, List.drop_succ_cons, List.drop_zero]
 repeat (with_reducible refine wpStill_step (fun K hK => ?_); go_simp; with_reducible refine hK _ ?_; clear hK K)
 with_reducible refine wpStill_nil ?_
 change wpList _ _ _ _ _ W1.drew
 go_upto_region 2 with (fail)
 clear p4 z2 z3 hl hfd
 have P2 := Aside0.mk P1.out.drew
 have B2 := Aside0.mk (below_drew B1.out)
 have R7b := Aside0.mk (show W1.drew.heap[g7]? = _ from R7.out)
 generalize W1.drew = W2 at P2 B2 R7b ⊢
 have p0 : W2.cell? ⟨pb, 0, none⟩ = some (.slice (some ad) ls.length cap) := (blk_cell P2.out.head 0).trans rfl
 have y0 := pw_cell_below B2.out Y.out.1
 have y1 := pw_cell_below B2.out Y.out.2.1
 have y2 := pw_cell_below B2.out Y.out.2.2.1
 have y3 := pw_cell_below B2.out Y.out.2.2.2
 go_upto_region 3 with (first | (refine wpList_store_row rfl 43 _ _ rfl W2.heap.size _ rfl rfl 43 _ (heap_alloc_last W2 _) (by as_aux_lemma => kernel_rfl) (by as_aux_lemma => kernel_rfl) (by as_aux_lemma => kernel_rfl) ?_; rw [World.setRow_alloc_new]))
 clear p0 y0 y1 y2 y3
 have P3 := Aside0.mk (P2.out.below (below_alloc (Below.refl _ _) (.cells #[.slice q.a0 o.code.length q.c0, .slice q.a1 o.data.length q.c1, .slice q.a2 o.syms.length q.c2, .slice q.a3 o.fixes.length q.c3] 43)))
 have B3 := Aside0.mk (below_alloc B2.out (.cells #[.slice q.a0 o.code.length q.c0, .slice q.a1 o.data.length q.c1, .slice q.a2 o.syms.length q.c2, .slice q.a3 o.fixes.length q.c3] 43))
 have R7c := Aside0.mk (blk_alloc R7b.out (.cells #[.slice q.a0 o.code.length q.c0, .slice q.a1 o.data.length q.c1, .slice q.a2 o.syms.length q.c2, .slice q.a3 o.fixes.length q.c3] 43))
 have R10 := Aside0.mk (show (W2.alloc (.cells #[.slice q.a0 o.code.length q.c0, .slice q.a1 o.data.length q.c1, .slice q.a2 o.syms.length q.c2, .slice q.a3 o.fixes.length q.c3] 43)).heap[W2.heap.size]? = some (.cells #[.slice q.a0 o.code.length q.c0, .slice q.a1 o.data.length q.c1, .slice q.a2 o.syms.length q.c2, .slice q.a3 o.fixes.length q.c3] 43 (0, 0)) from heap_at _ _ _ rfl)
 generalize W2.alloc (.cells #[.slice q.a0 o.code.length q.c0, .slice q.a1 o.data.length q.c1, .slice q.a2 o.syms.length q.c2, .slice q.a3 o.fixes.length q.c3] 43) = W3 at P3 B3 R7c R10 ⊢
 generalize W2.heap.size = g10 at R10 ⊢
 have hj0 := atsN_at (ls := ls) (j := ls.length) (k := j) (by omega)
 rw [if_pos (by omega)] at hj0
 obtain ⟨ga, cpa, hav, _, _, _, _, c0, c1⟩ := P3.out.piece hj0
 rw [atsN_length] at hav
 subst hav
 clear hj0
 have p1 : W3.cell? ⟨pb, 1, none⟩ = some (.slice (some ⟨ga, 0, none⟩) ls.length cpa) := (blk_cell P3.out.head 1).trans rfl
 have z1 : W3.cell? ⟨g7, 1, none⟩ = some (.int .i64 off) := (blk_cell R7c.out 1).trans rfl
 have z0 : W3.cell? ⟨g7, 0, none⟩ = some (.int .i64 kind) := (blk_cell R7c.out 0).trans rfl
 simp only [Act.put, List.setIfInBounds_toArray, List.set_cons_succ, List.set_cons_zero]
 refine wp_region_still_tail 11 (by kernel_rfl) (by kernel_rfl) ?_
 simp only [List.take_succ_cons, List.take_zero, List.drop_succ_cons, List.drop_zero]
 repeat (with_reducible refine wpStill_step (fun K hK => ?_); go_simp; with_reducible refine hK _ ?_; clear hK K)
 with_reducible refine wpStill_nil ?_
 change wpList _ _ _ _ _ W3.drew
 go_upto_region 5 with (fail)
 clear z0
 have FC := Aside0.mk (fits_cases X.out.fits)
 rcases FC.out with ⟨k1, o0, o1⟩ | hrest
 ·simp only at k1 o0 o1
  subst k1
  have hd0 := X.out.dataIn rfl
  have hw3 : IntKind.i64.wrap (dataN ls j + off) = dataN ls j + off := IntWalk.i64_in _ (by have := X.out.most; omega)
  have PC := Aside0.mk (fun (W : World) (hi : Img W g N img) (v : Int) => put_calls (v := v) hi (dataN ls j - 4096 + off).toNat (by omega) (by have := X.out.most; omega) (dataN ls j + off) (by omega))
  have HFX := Aside0.mk (show fixF ls j o ⟨1, off, name, add⟩ img = some (putI img (dataN ls j - 4096 + off).toNat ((pl + add) % 4294967296)) by unfold fixF; simp only [if_true]; rw [HPP.out])
  clear o0 o1 hd0
  go_upto_region 6 with (fail)
  have IM := Aside0.mk (X.out.image.below (pm_chain B3.out (Below.refl _ _).drew))
  have B4 := Aside0.mk (below_drew B3.out)
  have p1 : W3.drew.cell? ⟨pb, 1, none⟩ = some (.slice (some ⟨ga, 0, none⟩) ls.length cpa) := (blk_cell (w := W3.drew) P3.out.head 1).trans rfl
  have z1 : W3.drew.cell? ⟨g7, 1, none⟩ = some (.int .i64 off) := (blk_cell (w := W3.drew) R7c.out 1).trans rfl
  have c1 : W3.drew.cell? ⟨ga, j * 2 + 1, none⟩ = some (.int .i64 (dataN ls j)) := c1
  generalize W3.drew = W4 at IM B4 p1 z1 c1 ⊢
  refine wp_region_still_tail 14 (by kernel_rfl) (by kernel_rfl) ?_
  simp only [List.take_succ_cons, List.take_zero, List.drop_succ_cons, List.drop_zero]
  repeat (with_reducible refine wpStill_step (fun K hK => ?_); go_simp; with_reducible refine hK _ ?_; clear hK K)
  with_reducible refine wpStill_step (fun K hK => ?_)
  go_simp
  refine ⟨_, of_still _ _, hK _ ?_⟩
  clear hK K
  repeat (with_reducible refine wpStill_step (fun K hK => ?_); go_simp; with_reducible refine hK _ ?_; clear hK K)
  with_reducible refine wpStill_nil ?_
  change wpList _ _ _ _ _ W4.drew
  go_wp2_with (first | (go_at_call 12; refine (PC.out _ (IM.out.below (Below.refl _ _).drew) _).mono ?_; rintro e w' ⟨rfl, hi, hg⟩; have HI := Aside0.mk hi; have HG := Aside0.mk (grow_trans (grow_below (below_drew B4.out)) hg); clear hi hg))
  go_ret
  exact ⟨.inl ⟨_, HFX.out, rfl, HI.out⟩, HG.out⟩
 ·rcases hrest with ⟨k2, i, i2, hi1, hi2, hop⟩ | hrest
  ·simp only at k2 hi1 hi2 hop
   subst k2
   obtain ⟨k, v, hk, hkv, hvl, hdec⟩ := instr_at X.out.objIn hi1
   have hk2 : (k : Int) < (o.code.length : Int) := by have := (List.getElem?_eq_some_iff.1 hkv).1; omega
   obtain ⟨adc, hqa, hcv⟩ := C_at HR.out.code hkv
   have hq : wrap64 (off.tdiv 4) = (k : Int) := by have := HB.out.2.2.2; rw [Int.tdiv_eq_ediv_of_nonneg (by omega)]; unfold wrap64; omega
   have HK := Aside0.mk (And.intro hk hk2)
   have HDEC := Aside0.mk hdec
   have OKI := Aside0.mk (dec_op ⟨by omega, hvl⟩ hdec)
   have HV := Aside0.mk (show 0 ≤ (v : Int) ∧ (v : Int) < 4294967296 from ⟨by omega, hvl⟩)
   clear hk hkv hvl hdec
   obtain ⟨iop, ia, ib, ic, iimm⟩ := i
   simp only at hop
   subst hop
   have RDC := fun W : World => decode_yes W (v : Int) HV.out HDEC.out
   simp only [I5.enc] at RDC
   have RDC := Aside0.mk RDC
   have B4 := Aside0.mk (below_drew B3.out)
   have R7d := Aside0.mk (show W3.drew.heap[g7]? = _ from R7c.out)
   have R10d := Aside0.mk (show W3.drew.heap[g10]? = _ from R10.out)
   generalize W3.drew = W4 at B4 R7d R10d ⊢
   go_upto_region 9 with (fail)
   have d0 : W4.cell? ⟨g10, 0, none⟩ = some (.slice (some adc) o.code.length q.c0) := by rw [← hqa]; exact (blk_cell R10d.out 0).trans rfl
   have z1 : W4.cell? ⟨g7, 1, none⟩ = some (.int .i64 off) := (blk_cell R7d.out 1).trans rfl
   have hcv := pw_cell_below B4.out hcv
   go_upto_region 10 with (first | (go_at_call 25; refine (RDC.out _).mono ?_; rintro e Z1 ⟨rfl, hb7⟩; have BZ := Aside0.mk (B4.out.trans (hb7.mono B4.out.size)); clear hb7) | (refine wpList_store_row rfl 36 _ _ rfl Z1.heap.size _ rfl rfl 36 _ (heap_alloc_last Z1 _) (by as_aux_lemma => kernel_rfl) (by as_aux_lemma => kernel_rfl) (by as_aux_lemma => kernel_rfl) ?_; rw [World.setRow_alloc_new]))
   have B5 := Aside0.mk (below_alloc BZ.out (.cells #[.int .i64 64, .int .i64 (ia : Int), .int .i64 (ib : Int), .int .i64 (ic : Int), .int .i64 iimm] 36))
   have R12 := Aside0.mk (show (Z1.alloc (.cells #[.int .i64 64, .int .i64 (ia : Int), .int .i64 (ib : Int), .int .i64 (ic : Int), .int .i64 iimm] 36)).heap[Z1.heap.size]? = some (.cells #[.int .i64 64, .int .i64 (ia : Int), .int .i64 (ib : Int), .int .i64 (ic : Int), .int .i64 iimm] 36 (0, 0)) from heap_at _ _ _ rfl)
   generalize Z1.alloc (.cells #[.int .i64 64, .int .i64 (ia : Int), .int .i64 (ib : Int), .int .i64 (ic : Int), .int .i64 iimm] 36) = W5 at B5 R12 ⊢
   have G12 := Aside0.mk (show w.heap.size ≤ Z1.heap.size from BZ.out.size)
   generalize Z1.heap.size = g12 at R12 G12 ⊢
   clear d0 z1 hcv hq
   have OFC := Aside0.mk (of_still (pl + add) W5)
   obtain ⟨u, hu⟩ : ∃ u, (pl + add) % 4294967296 = u := ⟨_, rfl⟩
   have HU := Aside0.mk (show (pl + add) % 4294967296 = u ∧ 0 ≤ u ∧ u < 4294967296 from ⟨hu, by omega, by omega⟩)
   rw [hu] at OFC
   obtain ⟨s16, hs⟩ : ∃ s16, IntKind.i16.wrap u = s16 := ⟨_, rfl⟩
   have HS := Aside0.mk (show IntKind.i16.wrap u = s16 ∧ -32768 ≤ s16 ∧ s16 ≤ 32767 from ⟨hs, by rw [← hs]; exact i16_in u⟩)
   have hw16 : wrap64 s16 = s16 := by have := HS.out.2; unfold wrap64; omega
   clear hu
   go_upto_region 11 with (first | (go_at_call 24; refine OFC.out.mono ?_; rintro e W6 ⟨rfl, rfl⟩))
   have e1 : W6.cell? ⟨g12, 1, none⟩ = some (.int .i64 (ia : Int)) := (blk_cell R12.out 1).trans rfl
   have EC := Aside0.mk (encode_3 W6 64 (ia : Int) 0 0 s16 (by decide) (by rfl) ⟨by omega, by have := OKI.out.2.a; simp only at this; omega⟩ (by decide) (by decide) HS.out.2)
   go_upto_region 12 with (first | (go_at_call 26; refine EC.out.mono ?_; rintro e W7 ⟨rfl, hb8⟩; have B7 := Aside0.mk (B5.out.trans (hb8.mono B5.out.size)); have R12b := Aside0.mk (blk_below R12.out hb8); clear hb8))
   clear e1
   have e1 : W7.cell? ⟨g12, 1, none⟩ = some (.int .i64 (ia : Int)) := (blk_cell R12b.out 1).trans rfl
   have EC2 := Aside0.mk (encode_4 W7 65 (ia : Int) 0 0 (u / 65536) (by decide) (by rfl) ⟨by omega, by have := OKI.out.2.a; simp only at this; omega⟩ (by decide) (by decide) (by have := HU.out; omega))
   have hwu : wrap64 (u / 65536) = u / 65536 := by have := HU.out; unfold wrap64; omega
   go_upto_region 13 with (first | (go_at_call 26; refine EC2.out.mono ?_; rintro e W8 ⟨rfl, hb8⟩; have B8 := Aside0.mk (B7.out.trans (hb8.mono B7.out.size)); clear hb8))
   clear e1 EC EC2 hw16 hwu
   have HK2 := instr_at X.out.objIn hi2
   have hb8 : codeN ls j + off + 8 ≤ (N : Int) := by
    obtain ⟨k', _, hk', hv', _⟩ := HK2
    have := (List.getElem?_eq_some_iff.1 hv').1
    have := HB.out.2.2.1
    omega
   have HE8 := Aside0.mk hb8
   have HFX := Aside0.mk (show fixF ls j o ⟨2, off, name, add⟩ img = some (putI (putI img (codeN ls j + off).toNat (encW false 64 (ia : Int) 0 0 s16)) (codeN ls j + off + 4).toNat (encW false 65 (ia : Int) 0 0 (u / 65536))) by
    unfold fixF
    simp only [HPP.out, hi1, Option.getD_some, HU.out.1, HS.out.1]
    rw [if_neg (by decide), if_pos trivial])
   clear hi1 hi2 HK2 hb8
   have IM := Aside0.mk (X.out.image.below B8.out)
   have PC1 := Aside0.mk (put_calls (v := encW false 64 (ia : Int) 0 0 s16) IM.out (codeN ls j + off).toNat (by have := HE8.out; have := HB.out.2.2; omega) (by have := X.out.most; omega) (4096 + codeN ls j + off) (by have := HB.out.2.2; omega))
   have hw4 : wrap64 (4096 + codeN ls j + off + 4) = 4096 + codeN ls j + off + 4 := by have := HE8.out; have := HB.out.2.2; have := X.out.most; unfold wrap64; omega
   go_upto_region 14 with (first | (go_at_call 12; refine PC1.out.mono ?_; rintro e W9 ⟨rfl, hi, hg⟩; have I9 := Aside0.mk hi; have G9 := Aside0.mk hg; clear hi hg))
   have PC2 := Aside0.mk (put_calls (v := encW false 65 (ia : Int) 0 0 (u / 65536)) I9.out (codeN ls j + off + 4).toNat (by have := HE8.out; have := HB.out.2.2; omega) (by have := X.out.most; omega) (4096 + codeN ls j + off + 4) (by have := HB.out.2.2; omega))
   go_wp2_with (first | (go_at_call 12; refine PC2.out.mono ?_; rintro e w' ⟨rfl, hi, hg⟩; have HI := Aside0.mk hi; have HG := Aside0.mk hg; clear hi hg))
   go_ret
   exact ⟨.inl ⟨_, HFX.out, rfl, HI.out⟩, grow_trans (grow_below B8.out) (grow_trans G9.out HG.out)⟩
  ·rcases hrest with ⟨k3, i, hi1, hop⟩ | ⟨k4, i, hi1, hop⟩
   ·simp only at k3 hi1 hop
    subst k3
    obtain ⟨k, v, hk, hkv, hvl, hdec⟩ := instr_at X.out.objIn hi1
    have hk2 : (k : Int) < (o.code.length : Int) := by have := (List.getElem?_eq_some_iff.1 hkv).1; omega
    obtain ⟨adc, hqa, hcv⟩ := C_at HR.out.code hkv
    have hq : wrap64 (off.tdiv 4) = (k : Int) := by have := HB.out.2.2.2; rw [Int.tdiv_eq_ediv_of_nonneg (by omega)]; unfold wrap64; omega
    have HK := Aside0.mk (And.intro hk hk2)
    have HDEC := Aside0.mk hdec
    have OKI := Aside0.mk (dec_op ⟨by omega, hvl⟩ hdec)
    have HV := Aside0.mk (show 0 ≤ (v : Int) ∧ (v : Int) < 4294967296 from ⟨by omega, hvl⟩)
    clear hk hkv hvl hdec
    obtain ⟨iop, ia, ib, ic, iimm⟩ := i
    have HOPD := Aside0.mk hop
    clear hop
    have RDC := fun W : World => decode_yes W (v : Int) HV.out HDEC.out
    simp only [I5.enc] at RDC
    have RDC := Aside0.mk RDC
    have B4 := Aside0.mk (below_drew B3.out)
    have R7d := Aside0.mk (show W3.drew.heap[g7]? = _ from R7c.out)
    have R10d := Aside0.mk (show W3.drew.heap[g10]? = _ from R10.out)
    generalize W3.drew = W4 at B4 R7d R10d ⊢
    go_upto_region 16 with (fail)
    have d0 : W4.cell? ⟨g10, 0, none⟩ = some (.slice (some adc) o.code.length q.c0) := by rw [← hqa]; exact (blk_cell R10d.out 0).trans rfl
    have z1 : W4.cell? ⟨g7, 1, none⟩ = some (.int .i64 off) := (blk_cell R7d.out 1).trans rfl
    have hcv := pw_cell_below B4.out hcv
    go_upto_region 17 with (first | (go_at_call 25; refine (RDC.out _).mono ?_; rintro e Z1 ⟨rfl, hb7⟩; have BZ := Aside0.mk (B4.out.trans (hb7.mono B4.out.size)); clear hb7) | (refine wpList_store_row rfl 36 _ _ rfl Z1.heap.size _ rfl rfl 36 _ (heap_alloc_last Z1 _) (by as_aux_lemma => kernel_rfl) (by as_aux_lemma => kernel_rfl) (by as_aux_lemma => kernel_rfl) ?_; rw [World.setRow_alloc_new]))
    have B5 := Aside0.mk (below_alloc BZ.out (.cells #[.int .i64 iop, .int .i64 (ia : Int), .int .i64 (ib : Int), .int .i64 (ic : Int), .int .i64 iimm] 36))
    have R12 := Aside0.mk (show (Z1.alloc (.cells #[.int .i64 iop, .int .i64 (ia : Int), .int .i64 (ib : Int), .int .i64 (ic : Int), .int .i64 iimm] 36)).heap[Z1.heap.size]? = some (.cells #[.int .i64 iop, .int .i64 (ia : Int), .int .i64 (ib : Int), .int .i64 (ic : Int), .int .i64 iimm] 36 (0, 0)) from heap_at _ _ _ rfl)
    generalize Z1.alloc (.cells #[.int .i64 iop, .int .i64 (ia : Int), .int .i64 (ib : Int), .int .i64 (ic : Int), .int .i64 iimm] 36) = W5 at B5 R12 ⊢
    have G12 := Aside0.mk (show w.heap.size ≤ Z1.heap.size from BZ.out.size)
    generalize Z1.heap.size = g12 at R12 G12 ⊢
    clear d0 z1 hcv hq
    have OKF := Aside0.mk (dec_far HV.out HDEC.out HOPD.out)
    obtain ⟨r, hr⟩ : ∃ r, pl + add - (4096 + codeN ls j + off) - 4 = r := ⟨_, rfl⟩
    have hrb : -4194304 ≤ r ∧ r ≤ 4194304 := by have := HB.out; have := X.out.most; have := HK.out; omega
    have hw5 : wrap64 (pl + add - (4096 + codeN ls j + off)) = pl + add - (4096 + codeN ls j + off) := by unfold wrap64; omega
    have hw6 : wrap64 (pl + add - (4096 + codeN ls j + off) - 4) = r := by rw [hr]; unfold wrap64; omega
    obtain ⟨qq, hqq⟩ : ∃ qq, wrap64 (r.tdiv 4) = qq := ⟨_, rfl⟩
    have HQ := Aside0.mk (quot_in r qq hrb hqq)
    have HQQ := Aside0.mk hqq
    have HRR := Aside0.mk hr
    clear hrb hr hqq
    go_upto_region 18 with (fail)
    (try simp only [hw6])
    clear hw5 hw6
    have hqq := HQQ.out
    have e4 : W5.cell? ⟨g12, 4, none⟩ = some (.int .i64 iimm) := (blk_cell R12.out 4).trans rfl
    have f4 : W5.frozen? ⟨g12, 4, none⟩ = false := blk_frozen R12.out 4
    go_upto_region 19 with (fail)
    have R12c := Aside0.mk (blk_set R12.out 4 (.int .i64 qq))
    have B6 := Aside0.mk (B5.out.setCell (p := ⟨g12, 4, none⟩) G12.out (.int .i64 qq))
    generalize W5.setCell ⟨g12, 4, none⟩ (.int .i64 qq) = W6 at R12c B6 ⊢
    clear e4 f4 hqq
    have HI1 := Aside0.mk hi1
    clear hi1
    obtain ⟨m, hm⟩ : ∃ m, Int.tmod r 4 = m := ⟨_, rfl⟩
    have HM := Aside0.mk (rem_in r m hm)
    have hmw : wrap64 m = m := by have := HM.out; unfold wrap64; omega
    have hia := OKF.out
    (try simp only at hia)
    have HIA := Aside0.mk hia
    have hop := HOPD.out
    (try simp only at hop)
    have HOP := Aside0.mk hop
    have e0 := (blk_cell R12c.out 0).trans rfl
    have e1 := (blk_cell R12c.out 1).trans rfl
    have e2 := (blk_cell R12c.out 2).trans rfl
    have e3 := (blk_cell R12c.out 3).trans rfl
    have e4 := (blk_cell R12c.out 4).trans rfl
    clear hia hop
    have EC := Aside0.mk (encode_5 W6 iop (ia : Int) (ib : Int) (ic : Int) qq (by have := HOP.out; omega) (by rcases HOP.out with h | h <;> rw [h] <;> rfl) (by have := HIA.out; omega) (by have := HIA.out; omega) (by have := HIA.out; omega) (by have := HQ.out; omega))
    by_cases hdv : r % 4 = 0
    ·have HDV := Aside0.mk hdv
     clear hdv
     have h0 : m = 0 := HM.out.2.2.2 HDV.out
     subst h0
     have HFX : Aside0 (fixF ls j o ⟨3, off, name, add⟩ img = some (putI img (codeN ls j + off).toNat (encW true iop (ia : Int) (ib : Int) (ic : Int) qq))) := by
      refine ⟨?_⟩
      have e5 : pl + add - (4096 + (codeN ls j + off)) - 4 = r := by have := HRR.out; omega
      have e6 := HQ.out.2.2 HDV.out
      unfold fixF
      simp only [HPP.out, HI1.out, Option.getD_some, e5]
      rw [if_neg (by decide), if_neg (by decide), if_neg (by have := HDV.out; omega), if_pos trivial, ← e6]
      have := HIA.out
      rw [show (ia : Int) = 0 by omega, show (ib : Int) = 0 by omega, show (ic : Int) = 0 by omega]
     have HB4 := Aside0.mk (show codeN ls j + off + 4 ≤ (N : Int) by have := HK.out; have := HB.out.2.2; omega)
     have PC := Aside0.mk (fun (W : World) (hb : Below w.heap.size w W) => put_calls (v := encW true iop (ia : Int) (ib : Int) (ic : Int) qq) (X.out.image.below hb) (codeN ls j + off).toNat (by have := HB4.out; have := HB.out.2.2; omega) (by have := X.out.most; omega) (4096 + codeN ls j + off) (by have := HB.out.2.2; omega))
     go_wp2_with (first | (go_at_call 26; refine EC.out.mono ?_; rintro e W7 ⟨rfl, hb8⟩; have B7 := Aside0.mk (B6.out.trans (hb8.mono B6.out.size)); clear hb8) | (go_at_call 12; refine (PC.out _ B7.out).mono ?_; rintro e w' ⟨rfl, hi, hg⟩; have HI := Aside0.mk hi; have HG := Aside0.mk hg; clear hi hg))
     go_ret
     exact ⟨.inl ⟨_, HFX.out, rfl, HI.out⟩, grow_trans (grow_below B7.out) HG.out⟩
    ·have HDV := Aside0.mk hdv
     clear hdv
     have hmb : (m != 0) = true := by have := HM.out; have := HDV.out; simp; omega
     have HFX : Aside0 (fixF ls j o ⟨3, off, name, add⟩ img = none) := by
      refine ⟨?_⟩
      have e5 : pl + add - (4096 + (codeN ls j + off)) - 4 = r := by have := HRR.out; omega
      unfold fixF
      simp only [HPP.out, HI1.out, Option.getD_some, e5]
      rw [if_neg (by decide), if_neg (by decide), if_pos HDV.out]
     go_wp2_with (first | (go_at_call 26; refine EC.out.mono ?_; rintro e W7 ⟨rfl, hb8⟩; have B7 := Aside0.mk (B6.out.trans (hb8.mono B6.out.size)); clear hb8))
     go_ret
     exact ⟨.inr ⟨HFX.out, rfl⟩, grow_below B7.out⟩
   ·simp only at k4 hi1 hop
    subst k4
    obtain ⟨k, v, hk, hkv, hvl, hdec⟩ := instr_at X.out.objIn hi1
    have hk2 : (k : Int) < (o.code.length : Int) := by have := (List.getElem?_eq_some_iff.1 hkv).1; omega
    obtain ⟨adc, hqa, hcv⟩ := C_at HR.out.code hkv
    have hq : wrap64 (off.tdiv 4) = (k : Int) := by have := HB.out.2.2.2; rw [Int.tdiv_eq_ediv_of_nonneg (by omega)]; unfold wrap64; omega
    have HK := Aside0.mk (And.intro hk hk2)
    have HDEC := Aside0.mk hdec
    have OKI := Aside0.mk (dec_op ⟨by omega, hvl⟩ hdec)
    have HV := Aside0.mk (show 0 ≤ (v : Int) ∧ (v : Int) < 4294967296 from ⟨by omega, hvl⟩)
    clear hk hkv hvl hdec
    obtain ⟨iop, ia, ib, ic, iimm⟩ := i
    have HOPD := Aside0.mk hop
    clear hop
    have RDC := fun W : World => decode_yes W (v : Int) HV.out HDEC.out
    simp only [I5.enc] at RDC
    have RDC := Aside0.mk RDC
    have B4 := Aside0.mk (below_drew B3.out)
    have R7d := Aside0.mk (show W3.drew.heap[g7]? = _ from R7c.out)
    have R10d := Aside0.mk (show W3.drew.heap[g10]? = _ from R10.out)
    generalize W3.drew = W4 at B4 R7d R10d ⊢
    go_upto_region 16 with (fail)
    have d0 : W4.cell? ⟨g10, 0, none⟩ = some (.slice (some adc) o.code.length q.c0) := by rw [← hqa]; exact (blk_cell R10d.out 0).trans rfl
    have z1 : W4.cell? ⟨g7, 1, none⟩ = some (.int .i64 off) := (blk_cell R7d.out 1).trans rfl
    have hcv := pw_cell_below B4.out hcv
    go_upto_region 17 with (first | (go_at_call 25; refine (RDC.out _).mono ?_; rintro e Z1 ⟨rfl, hb7⟩; have BZ := Aside0.mk (B4.out.trans (hb7.mono B4.out.size)); clear hb7) | (refine wpList_store_row rfl 36 _ _ rfl Z1.heap.size _ rfl rfl 36 _ (heap_alloc_last Z1 _) (by as_aux_lemma => kernel_rfl) (by as_aux_lemma => kernel_rfl) (by as_aux_lemma => kernel_rfl) ?_; rw [World.setRow_alloc_new]))
    have B5 := Aside0.mk (below_alloc BZ.out (.cells #[.int .i64 iop, .int .i64 (ia : Int), .int .i64 (ib : Int), .int .i64 (ic : Int), .int .i64 iimm] 36))
    have R12 := Aside0.mk (show (Z1.alloc (.cells #[.int .i64 iop, .int .i64 (ia : Int), .int .i64 (ib : Int), .int .i64 (ic : Int), .int .i64 iimm] 36)).heap[Z1.heap.size]? = some (.cells #[.int .i64 iop, .int .i64 (ia : Int), .int .i64 (ib : Int), .int .i64 (ic : Int), .int .i64 iimm] 36 (0, 0)) from heap_at _ _ _ rfl)
    generalize Z1.alloc (.cells #[.int .i64 iop, .int .i64 (ia : Int), .int .i64 (ib : Int), .int .i64 (ic : Int), .int .i64 iimm] 36) = W5 at B5 R12 ⊢
    have G12 := Aside0.mk (show w.heap.size ≤ Z1.heap.size from BZ.out.size)
    generalize Z1.heap.size = g12 at R12 G12 ⊢
    clear d0 z1 hcv hq
    have OKF := Aside0.mk (dec_near HV.out HDEC.out (.inr HOPD.out))
    obtain ⟨r, hr⟩ : ∃ r, pl + add - (4096 + codeN ls j + off) - 4 = r := ⟨_, rfl⟩
    have hrb : -4194304 ≤ r ∧ r ≤ 4194304 := by have := HB.out; have := X.out.most; have := HK.out; omega
    have hw5 : wrap64 (pl + add - (4096 + codeN ls j + off)) = pl + add - (4096 + codeN ls j + off) := by unfold wrap64; omega
    have hw6 : wrap64 (pl + add - (4096 + codeN ls j + off) - 4) = r := by rw [hr]; unfold wrap64; omega
    obtain ⟨qq, hqq⟩ : ∃ qq, wrap64 (r.tdiv 4) = qq := ⟨_, rfl⟩
    have HQ := Aside0.mk (quot_in r qq hrb hqq)
    have HQQ := Aside0.mk hqq
    have HRR := Aside0.mk hr
    clear hrb hr hqq
    go_upto_region 18 with (fail)
    (try simp only [hw6])
    clear hw5 hw6
    have hqq := HQQ.out
    have e4 : W5.cell? ⟨g12, 4, none⟩ = some (.int .i64 iimm) := (blk_cell R12.out 4).trans rfl
    have f4 : W5.frozen? ⟨g12, 4, none⟩ = false := blk_frozen R12.out 4
    go_upto_region 19 with (fail)
    have R12c := Aside0.mk (blk_set R12.out 4 (.int .i64 qq))
    have B6 := Aside0.mk (B5.out.setCell (p := ⟨g12, 4, none⟩) G12.out (.int .i64 qq))
    generalize W5.setCell ⟨g12, 4, none⟩ (.int .i64 qq) = W6 at R12c B6 ⊢
    clear e4 f4 hqq
    have HI1 := Aside0.mk hi1
    clear hi1
    obtain ⟨m, hm⟩ : ∃ m, Int.tmod r 4 = m := ⟨_, rfl⟩
    have HM := Aside0.mk (rem_in r m hm)
    have hmw : wrap64 m = m := by have := HM.out; unfold wrap64; omega
    have hia := OKF.out
    (try simp only at hia)
    have HIA := Aside0.mk hia
    have hop := HOPD.out
    (try simp only at hop)
    have HOP := Aside0.mk hop
    have e0 := (blk_cell R12c.out 0).trans rfl
    have e1 := (blk_cell R12c.out 1).trans rfl
    have e2 := (blk_cell R12c.out 2).trans rfl
    have e3 := (blk_cell R12c.out 3).trans rfl
    have e4 := (blk_cell R12c.out 4).trans rfl
    clear hia hop
    by_cases hfit : -32768 ≤ qq ∧ qq ≤ 32767
    ·have EC := Aside0.mk (encode_3 W6 iop (ia : Int) (ib : Int) (ic : Int) qq (by have := HOP.out; omega) (by rcases HOP.out with h | h <;> rw [h] <;> rfl) (by have := HIA.out; omega) (by have := HIA.out; omega) (by have := HIA.out; omega) hfit)
     have HFIT := Aside0.mk hfit
     clear hfit
     by_cases hdv : r % 4 = 0
     ·have HDV := Aside0.mk hdv
      clear hdv
      have h0 : m = 0 := HM.out.2.2.2 HDV.out
      subst h0
      have HFX : Aside0 (fixF ls j o ⟨4, off, name, add⟩ img = some (putI img (codeN ls j + off).toNat (encW false iop (ia : Int) (ib : Int) (ic : Int) qq))) := by
       refine ⟨?_⟩
       have e5 : pl + add - (4096 + (codeN ls j + off)) - 4 = r := by have := HRR.out; omega
       have e6 := HQ.out.2.2 HDV.out
       unfold fixF
       simp only [HPP.out, HI1.out, Option.getD_some, e5]
       rw [if_neg (by decide), if_neg (by decide), if_neg (by have := HDV.out; omega), if_neg (by decide), if_pos (by rw [← e6]; exact HFIT.out), ← e6]
       have := HIA.out
       rw [show (ib : Int) = 0 by omega, show (ic : Int) = 0 by omega]
      have HB4 := Aside0.mk (show codeN ls j + off + 4 ≤ (N : Int) by have := HK.out; have := HB.out.2.2; omega)
      have PC := Aside0.mk (fun (W : World) (hb : Below w.heap.size w W) => put_calls (v := encW false iop (ia : Int) (ib : Int) (ic : Int) qq) (X.out.image.below hb) (codeN ls j + off).toNat (by have := HB4.out; have := HB.out.2.2; omega) (by have := X.out.most; omega) (4096 + codeN ls j + off) (by have := HB.out.2.2; omega))
      go_wp2_with (first | (go_at_call 26; refine EC.out.mono ?_; rintro e W7 ⟨rfl, hb8⟩; have B7 := Aside0.mk (B6.out.trans (hb8.mono B6.out.size)); clear hb8) | (go_at_call 12; refine (PC.out _ B7.out).mono ?_; rintro e w' ⟨rfl, hi, hg⟩; have HI := Aside0.mk hi; have HG := Aside0.mk hg; clear hi hg))
      go_ret
      exact ⟨.inl ⟨_, HFX.out, rfl, HI.out⟩, grow_trans (grow_below B7.out) HG.out⟩
     ·have HDV := Aside0.mk hdv
      clear hdv
      have hmb : (m != 0) = true := by have := HM.out; have := HDV.out; simp; omega
      have HFX : Aside0 (fixF ls j o ⟨4, off, name, add⟩ img = none) := by
       refine ⟨?_⟩
       have e5 : pl + add - (4096 + (codeN ls j + off)) - 4 = r := by have := HRR.out; omega
       unfold fixF
       simp only [HPP.out, HI1.out, Option.getD_some, e5]
       rw [if_neg (by decide), if_neg (by decide), if_pos HDV.out]
      go_wp2_with (first | (go_at_call 26; refine EC.out.mono ?_; rintro e W7 ⟨rfl, hb8⟩; have B7 := Aside0.mk (B6.out.trans (hb8.mono B6.out.size)); clear hb8))
      go_ret
      exact ⟨.inr ⟨HFX.out, rfl⟩, grow_below B7.out⟩
    ·have EC := Aside0.mk (encode_3n W6 iop (ia : Int) (ib : Int) (ic : Int) qq (by rcases HOP.out with h | h <;> rw [h] <;> rfl) (by have := HIA.out; omega) (by have := HIA.out; omega) (by have := HIA.out; omega) hfit)
     have HFIT := Aside0.mk hfit
     clear hfit
     by_cases hdv : r % 4 = 0
     ·have HDV := Aside0.mk hdv
      clear hdv
      have h0 : m = 0 := HM.out.2.2.2 HDV.out
      subst h0
      have HFX : Aside0 (fixF ls j o ⟨4, off, name, add⟩ img = none) := by
       refine ⟨?_⟩
       have e5 : pl + add - (4096 + (codeN ls j + off)) - 4 = r := by have := HRR.out; omega
       have e6 := HQ.out.2.2 HDV.out
       unfold fixF
       simp only [HPP.out, HI1.out, Option.getD_some, e5]
       rw [if_neg (by decide), if_neg (by decide), if_neg (by have := HDV.out; omega), if_neg (by decide), if_neg (by rw [← e6]; exact HFIT.out)]
      go_wp2_with (first | (go_at_call 26; refine EC.out.mono ?_; rintro e W7 ⟨rfl, hb8⟩; have B7 := Aside0.mk (B6.out.trans (hb8.mono B6.out.size)); clear hb8))
      go_ret
      exact ⟨.inr ⟨HFX.out, rfl⟩, grow_below B7.out⟩
     ·have HDV := Aside0.mk hdv
      clear hdv
      have hmb : (m != 0) = true := by have := HM.out; have := HDV.out; simp; omega
      have HFX : Aside0 (fixF ls j o ⟨4, off, name, add⟩ img = none) := by
       refine ⟨?_⟩
       have e5 : pl + add - (4096 + (codeN ls j + off)) - 4 = r := by have := HRR.out; omega
       unfold fixF
       simp only [HPP.out, HI1.out, Option.getD_some, e5]
       rw [if_neg (by decide), if_neg (by decide), if_pos HDV.out]
      go_wp2_with (first | (go_at_call 26; refine EC.out.mono ?_; rintro e W7 ⟨rfl, hb8⟩; have B7 := Aside0.mk (B6.out.trans (hb8.mono B6.out.size)); clear hb8))
      go_ret
      exact ⟨.inr ⟨HFX.out, rfl⟩, grow_below B7.out⟩
end Go.Proofs.Ytejhnlljddjicaa.Ma
namespace Go.Proofs.Ytejhnlljddjicaa.Ma
open Go.RowKit Go.Maps Go.WideMaps Go.WideElems Go.ChangeMaps Go.ChangeShapes Go.WideShapes Go.Proofs.Ytejhnlljddjicaa.PLk Go.Proofs.YtejhnlljddjicaaW.PrintWords Go.Proofs.YtejhnlljddjicaaW.PrintLast Go.Proofs.YtejhnlljddjicaaW.PrintMore Go.Proofs.Ytejhnlljddjicaa.La
set_option linter.unusedVariables false
set_option linter.unusedSimpArgs false
def allN (ls : List ObjV) : List (ByteArray × Int × Bool) := namesN ls ls.length
def sizeN (ls : List ObjV) : Nat := (endN ls ls.length - 4096).toNat
/-- Bytes laid over an image. -/
def dataI (img : List Int) (a : Nat) (d : List Int) : List Int := img.take a ++ (d ++ img.drop (a + d.length))
theorem dataI_length (img : List Int) (a : Nat) (d : List Int) (h : a + d.length ≤ img.length) : (dataI img a d).length = img.length := by
 unfold dataI
 simp
 omega
/-- The first k words of object j put. -/
def wordsI (ls : List ObjV) (j : Nat) (o : ObjV) (img : List Int) : Nat → List Int
 | 0 => img
 | k + 1 => match o.code[k]? with | some v => putI (wordsI ls j o img k) (codeN ls j + 4 * (k : Int)).toNat v | none => wordsI ls j o img k
def pieceI (ls : List ObjV) (j : Nat) (o : ObjV) (img : List Int) : List Int := if 0 < o.data.length then dataI (wordsI ls j o img o.code.length) (dataN ls j - 4096).toNat o.data else wordsI ls j o img o.code.length
/-- The image with the first j objects laid. -/
def imgN (ls : List ObjV) : Nat → List Int
 | 0 => List.replicate (sizeN ls) 0
 | j + 1 => match ls[j]? with | some o => pieceI ls j o (imgN ls j) | none => imgN ls j
/-- The first k fixes of object j done. -/
def fixesI (ls : List ObjV) (j : Nat) (o : ObjV) (img : List Int) : Nat → Option (List Int)
 | 0 => some img
 | k + 1 => (fixesI ls j o img k).bind fun i => match o.fixes[k]? with | some x => fixF ls j o x i | none => some i
def fixN (ls : List ObjV) : Nat → Option (List Int)
 | 0 => some (imgN ls ls.length)
 | j + 1 => (fixN ls j).bind fun i => match ls[j]? with | some o => fixesI ls j o i o.fixes.length | none => some i
def unkN (ls : List ObjV) : Bool := ls.any fun o => o.fixes.any (unkF (allN ls))
/-- Link answers an image. -/
structure LinkYes (ls : List ObjV) (start : ByteArray) (img : List Int) : Prop where
 plan : PlanOk ls
 known : unkN ls = false
 most : endN ls ls.length - 4096 ≤ 1048576
 some_ : codeN ls ls.length ≠ 0
 code : (placeF (allN ls) start).2 = true
 in_ : (placeF (allN ls) start).1 < 4096 + codeN ls ls.length
 fixed : fixN ls ls.length = some img
theorem codeN_mono {ls : List ObjV} (j : Nat) : ∀ d : Nat, codeN ls j ≤ codeN ls (j + d)
 | 0 => Int.le_refl _
 | d + 1 => by
  have ih := codeN_mono (ls := ls) j d
  show _ ≤ codeN ls (j + d) + _
  cases ls[j + d]? with
  | none => simpa using ih
  | some o => simp only; omega
theorem endN_mono {ls : List ObjV} (j : Nat) : ∀ d : Nat, endN ls j ≤ endN ls (j + d)
 | 0 => Int.le_refl _
 | d + 1 => by
  have ih := endN_mono (ls := ls) j d
  show _ ≤ endN ls ((j + d) + 1)
  cases h : ls[j + d]? with
  | none =>
   have : endN ls ((j + d) + 1) = endN ls (j + d) := by
    show (match ls[j + d]? with | some o => _ | none => _) = _
    rw [h]
   omega
  | some o =>
   rw [endN_next h]
   have := e1F_le (endN ls (j + d)) o
   omega
theorem codeN_nonneg {ls : List ObjV} : ∀ j : Nat, 0 ≤ codeN ls j
 | 0 => Int.le_refl _
 | j + 1 => by
  have ih := codeN_nonneg (ls := ls) j
  show 0 ≤ codeN ls j + _
  cases ls[j]? with
  | none => simpa using ih
  | some o => simp only; omega
theorem sizeN_is (ls : List ObjV) : (sizeN ls : Int) = endN ls ls.length - 4096 := by
 have := endN_mono (ls := ls) 0 ls.length
 have h2 := codeN_nonneg (ls := ls) ls.length
 have h0 : endN ls 0 = 4096 + codeN ls ls.length := rfl
 rw [Nat.zero_add] at this
 unfold sizeN; omega
/-- Object j's code lies in the code of the image. -/
theorem code_in {ls : List ObjV} {j : Nat} {o : ObjV} (h : ls[j]? = some o) : 0 ≤ codeN ls j ∧ codeN ls j + 4 * (o.code.length : Int) ≤ codeN ls ls.length ∧ codeN ls ls.length ≤ (sizeN ls : Int) := by
 have hl := (List.getElem?_eq_some_iff.1 h).1
 have h1 := codeN_mono (ls := ls) (j + 1) (ls.length - (j + 1))
 rw [show j + 1 + (ls.length - (j + 1)) = ls.length by omega, codeN_next h] at h1
 have h2 := endN_mono (ls := ls) 0 ls.length
 have h0 : endN ls 0 = 4096 + codeN ls ls.length := rfl
 rw [Nat.zero_add] at h2
 have := sizeN_is ls
 exact ⟨codeN_nonneg j, h1, by omega⟩
theorem up_twice (n : Int) : upF (upF n) = upF n := by unfold upF; omega
/-- Object j's data lie behind the code. -/
theorem data_in {ls : List ObjV} {j : Nat} {o : ObjV} (h : ls[j]? = some o) (hd : 0 < o.data.length) : codeN ls ls.length ≤ dataN ls j - 4096 ∧ dataN ls j - 4096 + (o.data.length : Int) ≤ (sizeN ls : Int) := by
 have hl := (List.getElem?_eq_some_iff.1 h).1
 have e : dataN ls j = e1F (endN ls j) o := by rw [dataN_at h]; unfold e1F; rw [if_pos hd, up_twice]
 have h1 := endN_mono (ls := ls) (j + 1) (ls.length - (j + 1))
 rw [show j + 1 + (ls.length - (j + 1)) = ls.length by omega, endN_next h, ← e] at h1
 have h2 := endN_mono (ls := ls) 0 j
 have h0 : endN ls 0 = 4096 + codeN ls ls.length := rfl
 rw [Nat.zero_add] at h2
 have h3 := (e1F_le (endN ls j) o).1
 have := sizeN_is ls
 exact ⟨by omega, by omega⟩
theorem wordsI_length {ls : List ObjV} {j : Nat} {o : ObjV} (h : ls[j]? = some o) {img : List Int} (hi : img.length = sizeN ls) : ∀ k : Nat, k ≤ o.code.length → (wordsI ls j o img k).length = sizeN ls
 | 0, _ => hi
 | k + 1, hk => by
  have ih := wordsI_length h hi k (by omega)
  have := code_in h
  unfold wordsI
  rw [List.getElem?_eq_getElem (show k < o.code.length by omega)]
  simp only
  rw [putI_length _ _ _ (by rw [ih]; omega), ih]
theorem pieceI_length {ls : List ObjV} {j : Nat} {o : ObjV} (h : ls[j]? = some o) {img : List Int} (hi : img.length = sizeN ls) : (pieceI ls j o img).length = sizeN ls := by
 have hw := wordsI_length h hi _ (Nat.le_refl _)
 unfold pieceI
 split
 ·next hd =>
  have := data_in h hd
  have := code_in h
  rw [dataI_length _ _ _ (by rw [hw]; omega), hw]
 ·exact hw
theorem imgN_length (ls : List ObjV) : ∀ j : Nat, (imgN ls j).length = sizeN ls
 | 0 => by simp [imgN]
 | j + 1 => by
  have ih := imgN_length ls j
  unfold imgN
  cases h : ls[j]? with
  | none => exact ih
  | some o => exact pieceI_length h ih
theorem unk_at {ls : List ObjV} {j : Nat} {o : ObjV} (h : ls[j]? = some o) (hu : o.fixes.any (unkF (allN ls)) = true) : unkN ls = true := List.any_eq_true.2 ⟨o, List.mem_of_getElem? h, hu⟩
theorem unk_no {ls : List ObjV} (h : ∀ (j : Nat) (o : ObjV), ls[j]? = some o → o.fixes.any (unkF (allN ls)) = false) : unkN ls = false := by
 unfold unkN
 rw [List.any_eq_false]
 intro o ho
 obtain ⟨k, hk, rfl⟩ := List.getElem_of_mem ho
 simp [h k _ (List.getElem?_eq_getElem hk)]
theorem code_four {ls : List ObjV} : ∀ j : Nat, codeN ls j % 4 = 0
 | 0 => rfl
 | j + 1 => by
  have ih := code_four (ls := ls) j
  show (codeN ls j + _) % 4 = 0
  cases ls[j]? with
  | none => simpa using ih
  | some o => simp only; omega
/-- Where a known name lies. -/
theorem names_where (ls : List ObjV) (hc : ∀ (j : Nat) (o : ObjV), ls[j]? = some o → CheckOk o) : ∀ (j : Nat), j ≤ ls.length → ∀ p ∈ namesN ls j, 4096 ≤ p.2.1 ∧ p.2.1 ≤ endN ls ls.length + 3 ∧ (p.2.2 = true → p.2.1 % 4 = 0 ∧ p.2.1 ≤ 4096 + codeN ls ls.length)
 | 0, _, p, hp => by simp [namesN] at hp
 | j + 1, hj, p, hp => by
  have ih := names_where ls hc j (by omega)
  obtain ⟨o, ho⟩ : ∃ o, ls[j]? = some o := ⟨_, List.getElem?_eq_getElem (by omega)⟩
  rw [namesN_next ho, List.mem_append] at hp
  rcases hp with hp | hp
  ·exact ih p hp
  ·unfold symsN at hp
   obtain ⟨s, hs, rfl⟩ := List.mem_map.1 hp
   obtain ⟨k, hk, rfl⟩ := List.getElem_of_mem hs
   have so := (hc j o ho).syms k _ (List.getElem?_eq_getElem hk)
   have h1 := so.lo
   have h2 := so.hi
   have h3 := so.four
   have hci := code_in ho
   have hsz := sizeN_is ls
   have he := endN_le hc j
   have hem := endN_mono (ls := ls) (j + 1) (ls.length - (j + 1))
   rw [show j + 1 + (ls.length - (j + 1)) = ls.length by omega, endN_next ho] at hem
   have hu := e1F_le (endN ls j) o
   have hup := upF_le (e1F (endN ls j) o)
   have hd := dataN_at ho
   unfold symP
   unfold mostF at h2
   split
   ·next hd1 =>
    rw [if_pos hd1] at h2
    simp only
    refine ⟨by omega, ?_, fun h => by simp at h⟩
    rw [hd]
    omega
   ·next hd1 =>
    rw [if_neg hd1] at h2
    have h4 := h3 (by simpa using hd1)
    have hc4 : codeN ls j % 4 = 0 := code_four j
    simp only
    exact ⟨by omega, by omega, fun _ => ⟨by omega, by omega⟩⟩
theorem place_where {ls : List ObjV} (hc : ∀ (j : Nat) (o : ObjV), ls[j]? = some o → CheckOk o) (s : ByteArray) : 0 ≤ (placeF (allN ls) s).1 ∧ (placeF (allN ls) s).1 ≤ endN ls ls.length + 3 ∧ ((placeF (allN ls) s).2 = true → (placeF (allN ls) s).1 % 4 = 0) := by
 have he := endN_le hc ls.length
 unfold placeF look allN
 cases h : (namesN ls ls.length).find? (fun p => decide (p.1 = s)) with
 | none => simp only [Option.map_none, Option.getD_none]; exact ⟨by omega, by omega, fun h => by simp at h⟩
 | some p =>
  have := names_where ls hc ls.length (Nat.le_refl _) p (List.mem_of_find?_eq_some h)
  simp only [Option.map_some, Option.getD_some]
  exact ⟨by omega, by omega, fun h => (this.2.2 h).1⟩
end Go.Proofs.Ytejhnlljddjicaa.Ma
