-- Written by press.py, a program of this session, round the kit's print.py (functions and contracts; Lean checks them).
import Derived.Test.YtnhkamfccoppbaaQCleanestMixx0
namespace Go.Proofs.Ytnhkamfccoppbaa.QCleanestMix
open Go.Proofs.Ytnhkamfccoppbaa.QWords
attribute [local go_sem high] binOp_string_geq_q binOp_string_leq_q binOp_string_gtr_q
open Go.RowKit Go.Proofs.YtnhkamfccoppbaaW.PrintWords Go.Proofs.YtnhkamfccoppbaaW.PrintLast Go.Proofs.YtnhkamfccoppbaaW.PrintMore
attribute [local go_sem] max2_int min2_int max_two min_two max_three min_three max_four min_four   -- for this text's walks alone
set_option linter.unusedVariables false
set_option linter.unusedSimpArgs false

/-! ### impl_mixes_after: function 39 -/
/-! ### the memo of the least prices: a map keyed by what is left -/
theorem mix_laid : laidOutB Try.prog = true := by kernel_rfl
theorem mix_law : Go.Maps.Keyed Try.prog 63 := Go.Maps.Keyed.of_law (deep_law_laid mix_laid (m := 2) (by omega) (of_decide_eq_true (by kernel_rfl)) (by kernel_rfl) (by kernel_rfl))
def stv (a b c : Int) : Value := .agg #[.int .i64 a, .int .i64 b, .int .i64 c]
def inBox (a b c : Int) : Prop := (0 ≤ a ∧ a ≤ 6) ∧ (0 ≤ b ∧ b ≤ 120) ∧ 0 ≤ c ∧ c ≤ 2401
def ikey (a b c : Int) : Lit := .string (keyBytes [.int .i64 a, .int .i64 b, .int .i64 c])
theorem mix_key {a b c : Int} (h : inBox a b c) : keyOf Try.prog 63 (stv a b c) = some (ikey a b c) := by
 obtain ⟨⟨h1, h2⟩, ⟨h3, h4⟩, h5, h6⟩ := h
 have row : 63 < Try.prog.types.size := of_decide_eq_true (by kernel_rfl)
 obtain ⟨n, hn⟩ : ∃ n, Try.prog.types.size + 1 = n + 2 := ⟨Try.prog.types.size - 1, by omega⟩
 have kt : Try.prog.keyType 63 = true := by kernel_rfl
 have cs : Try.prog.cellsOf 63 = 3 := by kernel_rfl
 have ci : Try.prog.cellsOf 2 = 1 := by kernel_rfl
 have w1 : (Lit.int .i64 a).wf = true := WalkArith.wf_i64 (by omega)
 have w2 : (Lit.int .i64 b).wf = true := WalkArith.wf_i64 (by omega)
 have w3 : (Lit.int .i64 c).wf = true := WalkArith.wf_i64 (by omega)
 have hc : (stv a b c).cells.toList = [Value.int .i64 a, .int .i64 b, .int .i64 c] := rfl
 have hf : (stv a b c).formed Try.prog 63 = true := by simp [stv, Value.formed, Try.underlying63, cs]
 have hi : ∀ x : Int, (Lit.int .i64 x).wf = true → Try.prog.keyLits (n + 1) 2 [.int .i64 x] = some [.int .i64 x] := fun x hx => by
  rw [Program.keyLits.eq_def]
  simp only [Try.underlying2, hx, and_self, if_true]
 have hl : Try.prog.keyLits (n + 2) 63 [Value.int .i64 a, .int .i64 b, .int .i64 c] = some [.int .i64 a, .int .i64 b, .int .i64 c] := by
  rw [Program.keyLits.eq_def]
  simp only [Try.underlying63, cs]
  simp [ci, hi _ w1, hi _ w2, hi _ w3]
 unfold keyOf
 simp only [Try.underlying63, kt, hf, Bool.and_self, hn, hc, hl, if_true, Option.map_some]
 rfl
theorem mix_inj {a b c a' b' c' : Int} (h : inBox a b c) (h' : inBox a' b' c') (e : ikey a b c = ikey a' b' c') : a = a' ∧ b = b' ∧ c = c' := by
 have k := mix_key h
 rw [e] at k
 have := mix_law.inj k (mix_key h')
 simp only [stv, Value.agg.injEq, Array.mk.injEq, List.cons.injEq, Value.int.injEq, true_and, and_true] at this
 exact this
theorem mix_isKey {a b c : Int} (h : inBox a b c) : WideAt.IsKeyLit (ikey a b c) := mix_law.key (mix_key h)
theorem mix_zero (w : World) : (zeroValue 2).run Try.prog w = .ok (.int .i64 0) w := by kernel_rfl
theorem mix_pigeon : ∀ (b a : Nat) (f : Nat → Nat), (∀ q, q < a → f q < b) → (∀ p q, p < a → q < a → f p = f q → p = q) → a ≤ b := by
 intro b
 induction b with
 | zero =>
  intro a f h _
  by_cases c : a = 0
  ·omega
  ·have := h 0 (by omega)
   omega
 | succ b ih =>
  intro a f h inj
  by_cases c : ∃ q, q < a ∧ f q = b
  ·obtain ⟨q0, h0, h1⟩ := c
   have := ih (a - 1) (fun q => f (if q < q0 then q else q + 1)) (fun q hq => by
    have hlt : (if q < q0 then q else q + 1) < a := by split <;> omega
    have a1 := h _ hlt
    have a2 : f (if q < q0 then q else q + 1) ≠ b := fun e => by
     have := inj _ _ hlt h0 (e.trans h1.symm)
     split at this <;> omega
    omega) (fun p q hp hq e => by
    have hp2 : (if p < q0 then p else p + 1) < a := by split <;> omega
    have hq2 : (if q < q0 then q else q + 1) < a := by split <;> omega
    have := inj _ _ hp2 hq2 e
    split at this <;> split at this <;> omega)
   omega
  ·exact Nat.le_succ_of_le (ih a f (fun q hq => by
    have a1 := h q hq
    have a2 : f q ≠ b := fun e => c ⟨q, hq, e⟩
    omega) inj)
/-- The map at B reads as D; its keys are states within bounds; what it holds is told by F; but for it the world is, below the place where w's heap ended, as w. -/
def MemoD (F : Int → Int → Int → Int → Prop) (B : Nat) (D : DataW Unit) (w W : World) : Prop :=
 W.ownsMap Try.prog 63 (plainElem Try.prog 2) B 4000000 D ∧ (∀ es, D = .map es → ∀ p ∈ es, ∃ a b c, inBox a b c ∧ p.1 = ikey a b c) ∧
 (∀ a b c v, inBox a b c → Go.Maps.has D (ikey a b c) = true → D.atKey (ikey a b c) (.lit (.int .i64 0)) = .lit (.int .i64 v) → F a b c v) ∧
 w.heap.size ≤ W.heap.size ∧ ∀ g, g < w.heap.size → g ≠ B → W.heap[g]? = w.heap[g]?
section
variable {F : Int → Int → Int → Int → Prop} {B : Nat} {D D' : DataW Unit} {w W W1 : World}
theorem own_rebound {n n' : Nat} (h : W.ownsMap Try.prog 63 (plainElem Try.prog 2) B n D) (hs : Go.Maps.size D ≤ n') : W.ownsMap Try.prog 63 (plainElem Try.prog 2) B n' D := by
 obtain ⟨es, clock, hb, Ft, _, rfl⟩ := h
 exact ⟨es, clock, hb, Ft, by simpa [Go.Maps.size, length_sorted] using hs, rfl⟩
theorem box_size {n : Nat} (h : W.ownsMap Try.prog 63 (plainElem Try.prog 2) B n D) (hb : ∀ es, D = .map es → ∀ p ∈ es, ∃ a b c, inBox a b c ∧ p.1 = ikey a b c) : Go.Maps.size D ≤ 4000000 := by
 obtain ⟨es, rfl, hp⟩ := h.tidy mix_law
 have hb := hb es rfl
 have hc : ∀ q : Nat, ∃ m : Nat, ∀ h : q < es.length, ∃ a b c, inBox a b c ∧ es[q].1 = ikey a b c ∧ (m : Int) = a * 290642 + b * 2402 + c := by
  intro q
  by_cases hq : q < es.length
  ·obtain ⟨a, b, c, h1, h2⟩ := hb _ (List.getElem_mem hq)
   obtain ⟨⟨i1, i2⟩, ⟨i3, i4⟩, i5, i6⟩ := id h1
   exact ⟨(a * 290642 + b * 2402 + c).toNat, fun _ => ⟨a, b, c, h1, h2, by omega⟩⟩
  ·exact ⟨0, fun h => absurd h hq⟩
 obtain ⟨f, hf⟩ := Classical.axiomOfChoice hc
 have := mix_pigeon 2034494 es.length f (fun q hq => by
  obtain ⟨a, b, c, ⟨⟨i1, i2⟩, ⟨i3, i4⟩, i5, i6⟩, _, h3⟩ := hf q hq
  omega) (fun p q hp' hq e => by
  obtain ⟨a, b, c, g1, g2, g3⟩ := hf p hp'
  obtain ⟨a', b', c', k1, k2, k3⟩ := hf q hq
  obtain ⟨⟨i1, i2⟩, ⟨i3, i4⟩, i5, i6⟩ := id g1
  obtain ⟨⟨j1, j2⟩, ⟨j3, j4⟩, j5, j6⟩ := id k1
  rw [e] at g3
  have ea : a = a' := by omega
  have eb : b = b' := by omega
  have ec : c = c' := by omega
  subst ea eb ec
  rcases Nat.lt_trichotomy p q with hlt | heq | hgt
  ·exact absurd (g2.trans k2.symm) (List.pairwise_iff_getElem.1 hp p q hp' hq hlt)
  ·exact heq
  ·exact absurd (k2.trans g2.symm) (List.pairwise_iff_getElem.1 hp q p hq hp' hgt))
 show es.length ≤ 4000000
 omega
theorem memo_step (h : MemoD F B D w W) (hs : W.heap.size ≤ W1.heap.size) (hb : ∀ g, g < W.heap.size → W1.heap[g]? = W.heap[g]?) : MemoD F B D w W1 := by
 obtain ⟨h1, h2, h3, h4, h5⟩ := h
 have hlt := h1.lt
 obtain ⟨es, clock, hq, Ft, hn, hD⟩ := h1
 exact ⟨⟨es, clock, (hb _ hlt).trans hq, Ft, hn, hD⟩, h2, h3, Nat.le_trans h4 hs, fun g hg hne => (hb g (Nat.lt_of_lt_of_le hg h4)).trans (h5 g hg hne)⟩
theorem memo_below (h : MemoD F B D w W) (hb : Below W.heap.size W W1) : MemoD F B D w W1 := memo_step h hb.size (fun g hg => hb.block g hg)
theorem mal (h : MemoD F B D w W) (o : Obj) : MemoD F B D w (W.alloc o) := memo_below h (bal (Below.refl _ _) o)
theorem mdw (h : MemoD F B D w W) : MemoD F B D w W.drew := memo_below h (bdw (Below.refl _ _))
theorem mdN (h : MemoD F B D w W) (n : Nat) : MemoD F B D w (W.drewN n) := memo_below h (pbN (Below.refl _ _) n)
theorem mst (h : MemoD F B D w W) {g j : Nat} {v : Value} (hne : B ≠ g ∧ w.heap.size ≤ g) : MemoD F B D w (W.setCell ⟨g, j, none⟩ v) := by
 obtain ⟨h1, h2, h3, h4, h5⟩ := h
 exact ⟨h1.setCell hne.1 v, h2, h3, by simpa [World.setCell] using h4, fun g' hg' hn' => (Below.heap_setCell W ⟨g, j, none⟩ v g' (by show g' ≠ g; omega)).trans (h5 g' hg' hn')⟩
theorem memo_new (h : MemoD F B D w W) {g : Nat} (hg : g = W.heap.size) : B ≠ g ∧ w.heap.size ≤ g := by
 have h1 := h.1.lt
 have h2 := h.2.2.2.1
 omega
theorem memo_blk (h : MemoD F B D W W1) {g : Nat} {o : Obj} (hk : W.heap[g]? = some o) (hne : B ≠ g) : W1.heap[g]? = some o := (h.2.2.2.2 g (blk_lt hk) (Ne.symm hne)).trans hk
theorem memo_trans (h : MemoD F B D w W) (h' : MemoD F B D' W W1) : MemoD F B D' w W1 := ⟨h'.1, h'.2.1, h'.2.2.1, Nat.le_trans h.2.2.2.1 h'.2.2.2.1, fun g hg hne => (h'.2.2.2.2 g (Nat.lt_of_lt_of_le hg h.2.2.2.1) hne).trans (h.2.2.2.2 g hg hne)⟩
theorem memo_self (h : MemoD F B D w W) : MemoD F B D W W := ⟨h.1, h.2.1, h.2.2.1, Nat.le_refl _, fun _ _ _ => rfl⟩
/-- A map just made: it holds nothing. -/
theorem memo_made (F : Int → Int → Int → Int → Prop) (W : World) : MemoD F W.heap.size (.map []) W (W.alloc (.map #[] 0)) := by
 refine ⟨(World.ownsMap_made W Try.prog 63 (plainElem Try.prog 2)).mono (by omega), ?_, ?_, (bal (Below.refl _ W) _).size, fun g hg _ => (bal (Below.refl _ W) _).block g hg⟩
 ·intro es he p hp
  injection he with he
  subst he
  cases hp
 ·intro a b c v _ hh
  simp [Go.Maps.has] at hh
variable {ops : Array Oper} {rest : List Oper} {o : Oper} {a : Act} {Q : Exit → Act → World → Prop} {x1 x2 x3 : Int}
theorem memo_miss (h : MemoD F B D w W) (hg : o.guard = none) (m x : Operand) (hop : o.op = Op.lookup 53 m x true) (hm : a.eval m = .map (some B)) (hx : a.eval x = stv x1 x2 x3) (hbx : inBox x1 x2 x3) (hh : Go.Maps.has D (ikey x1 x2 x3) = false)
  (hK : ∀ v : Int, wpList Try.prog ops Q rest (a.put o.dst (.tuple #[.int .i64 v, .bool false])) W) : wpList Try.prog ops Q (o :: rest) a W := by
 refine wpList_lookup_own_ok_int W hg m x 53 hop 63 2 .i64 mix_law Try.underlying53 Try.underlying2 (mix_zero W) B _ D hm h.1 _ _ hx (mix_key hbx) ?_
 intro c _ _
 rw [hh]
 exact hK c
theorem memo_hit (h : MemoD F B D w W) (hg : o.guard = none) (m x : Operand) (hop : o.op = Op.lookup 53 m x true) (hm : a.eval m = .map (some B)) (hx : a.eval x = stv x1 x2 x3) (hbx : inBox x1 x2 x3) (hh : Go.Maps.has D (ikey x1 x2 x3) = true) {v : Int} (hu : ∀ c, F x1 x2 x3 c → c = v)
  (hK : wpList Try.prog ops Q rest (a.put o.dst (.tuple #[.int .i64 v, .bool true])) W) : wpList Try.prog ops Q (o :: rest) a W := by
 refine wpList_lookup_own_ok_int W hg m x 53 hop 63 2 .i64 mix_law Try.underlying53 Try.underlying2 (mix_zero W) B _ D hm h.1 _ _ hx (mix_key hbx) ?_
 intro c hat _
 have e := hu c (h.2.2.1 _ _ _ _ hbx hh hat)
 subst e
 rw [hh]
 exact hK
theorem memo_store (h : MemoD F B D w W) (hg : o.guard = none) (m x y : Operand) (hop : o.op = Op.mapUpdate 53 m x y) (hm : a.eval m = .map (some B)) (hx : a.eval x = stv x1 x2 x3) (hbx : inBox x1 x2 x3) {v : Int} (hy : a.eval y = .int .i64 v) (hv : (Lit.int .i64 v).wf = true) (hF : F x1 x2 x3 v)
  (hK : ∀ D' W1, MemoD F B D' w W1 → W.grownBy W1 (some B) → wpList Try.prog ops Q rest (a.put o.dst undef) W1) : wpList Try.prog ops Q (o :: rest) a W := by
 refine wpList_mapUpdate_own W hg m x y 53 hop 63 2 mix_law Try.underlying53 (plainElem Try.prog 2) B 4000000 D hm h.1 (by unfold maxLen; omega) _ _ _ hx hy (mix_key hbx) (.lit (.int .i64 v)) [] (plainElem_int Try.underlying2 hv) ?_
 intro W1 hown hgr
 obtain ⟨h1, h2, h3, h4, h5⟩ := h
 have hmap := h1.isMap
 have hkeys : ∀ es, D.put (ikey x1 x2 x3) (.lit (.int .i64 v)) = .map es → ∀ p ∈ es, ∃ a b c, inBox a b c ∧ p.1 = ikey a b c := by
  obtain ⟨es0, rfl⟩ := hmap
  intro es he p hp
  injection he with he
  rw [← he] at hp
  rcases ChangeMaps.mem_insert_iff.1 hp with rfl | hp
  ·exact ⟨_, _, _, hbx, rfl⟩
  ·exact h2 es0 rfl p (List.mem_filter.1 hp).1
 refine hK _ W1 ⟨own_rebound hown (box_size hown hkeys), hkeys, ?_, Nat.le_trans h4 hgr.size, fun g hg' hne => (hgr.block g (Nat.lt_of_lt_of_le hg' h4) (by intro e; injection e with e; exact hne e)).trans (h5 g hg' hne)⟩ hgr
 intro a' b' c' v' hbx' hh hat
 by_cases e : ikey a' b' c' = ikey x1 x2 x3
 ·obtain ⟨rfl, rfl, rfl⟩ := mix_inj hbx' hbx e
  rw [Go.Maps.atKey_put_same hmap (mix_isKey hbx)] at hat
  injection hat with hat
  injection hat with _ hat
  subst hat
  exact hF
 ·rw [Go.Maps.has_put_other e] at hh
  rw [Go.Maps.atKey_put_other e] at hat
  exact h3 _ _ _ _ hbx' hh hat
end
def impl_mixes_after.f (l0_0 : List (S46)) (a0_1 : Int) (a0_2 : Int) (a0_3 : Int) (a0_4 : Int) (a1_0 : Int) (a1_1 : Int) (a1_2 : Int) (a2 : Int) : Option (Int × Int × Int × Bool) := if 0 ≤ a1_0 then (if a1_0 < (l0_0.length : Int) then (if (wrap64 (a1_1 - a2)) ≥ 0 then (some (wrap64 (a1_0 + 1), wrap64 (a1_1 - a2), wrap64 (a1_2 - (wrap64 (a2 * ((rd_T46 l0_0 a1_0).f1)))), decide ((wrap64 (a1_2 - (wrap64 (a2 * ((rd_T46 l0_0 a1_0).f1))))) ≥ 0))) else (some (wrap64 (a1_0 + 1), wrap64 (a1_1 - a2), wrap64 (a1_2 - (wrap64 (a2 * ((rd_T46 l0_0 a1_0).f1)))), false))) else (none)) else (none)
def impl_mixes_after.T1 : Bool × List (List Nat × List Nat) := (true, [([], []), ([0], [0]), ([1], [1]), ([], []), ([3], [3]), ([], []), ([4, 5], [4, 5]), ([], []), ([7], [7]), ([], []), ([], []), ([10], [10]), ([], []), ([12], [12]), ([11, 13], [11, 13]), ([14], [14]), ([15], [15]), ([9, 16], [9, 16]), ([8, 17], [8, 17]), ([2, 6, 18], [2, 6, 18]), ([], []), ([20, 19, 0, 1, 2, 3, 4, 5, 6, 7, 8, 9, 10, 11, 12, 13, 14, 15, 16, 17, 18, 19, 20], [19, 20])])
def impl_mixes_after.B1 : List Nat := [0, 1, 3, 0, 8, 0, 56, 0, 128, 0, 0, 1024, 0, 4096, 15360, 31744, 64512, 130560, 262016, 524287, 0, 2097151]
theorem impl_mixes_after.tab1 : rtab .any (opsOf Try.f39 1) = impl_mixes_after.T1 := by kernel_rfl
theorem impl_mixes_after.bits1 : waitsOk impl_mixes_after.T1.2 impl_mixes_after.B1 = true := by kernel_rfl
def impl_mixes_after.T2 : Bool × List (List Nat × List Nat) := (true, [([], []), ([], []), ([1], [1]), ([2], [2]), ([3], [3]), ([4], [4]), ([5, 4], [4, 5]), ([6, 4], [4, 6]), ([4, 7], [4, 7]), ([0, 4, 0], [0]), ([8, 9, 0, 1, 2, 3, 4, 5, 6, 7, 8, 9], [8])])
def impl_mixes_after.B2 : List Nat := [0, 0, 2, 6, 14, 30, 62, 126, 254, 31, 1023]
theorem impl_mixes_after.tab2 : rtab .any (opsOf Try.f39 2) = impl_mixes_after.T2 := by kernel_rfl
theorem impl_mixes_after.bits2 : waitsOk impl_mixes_after.T2.2 impl_mixes_after.B2 = true := by kernel_rfl
set_option maxHeartbeats 8000000 in
set_option maxRecDepth 100000 in
theorem impl_mixes_after.calls (A0_0 : Option Addr) (c0_0 : Nat) (l0_0 : List (S46)) (a0_2 : Int) (p4 : Option Nat) (a1_0 : Int) (a1_1 : Int) (a1_2 : Int) (a2 : Int) (r1 : Int) (r2 : Int) (r3 : Int) (r4 : Bool) (w : World) (hr0_0 : Kd.C k46 w A0_0 l0_0.length l0_0) (hc0_0 : l0_0.length ≤ c0_0) (h : impl_mixes_after.f l0_0 0 a0_2 0 0 a1_0 a1_1 a1_2 a2 = some (r1, r2, r3, r4)) :
  Calls Try.prog 39 #[.agg #[.slice A0_0 l0_0.length c0_0, .func (.func 29) #[] #[], .int .i64 a0_2, .map none, .map p4], .agg #[.int .i64 a1_0, .int .i64 a1_1, .int .i64 a1_2], .int .i64 a2] w fun e w' => e = .returned (.tuple #[.agg #[.int .i64 r1, .int .i64 r2, .int .i64 r3], .bool r4]) ∧ Below w.heap.size w w' := by
 have hu55 := Try.underlying55
 have hu63 := Try.underlying63
 have HR0_0 := As0.mk hr0_0
 have HC0_0 := As0.mk hc0_0
 clear hr0_0 hc0_0
 have HB := As0.mk (Below.refl w.heap.size w)
 have H : (if 0 ≤ a1_0 then (if a1_0 < (l0_0.length : Int) then (if (wrap64 (a1_1 - a2)) ≥ 0 then (some (wrap64 (a1_0 + 1), wrap64 (a1_1 - a2), wrap64 (a1_2 - (wrap64 (a2 * ((rd_T46 l0_0 a1_0).f1)))), decide ((wrap64 (a1_2 - (wrap64 (a2 * ((rd_T46 l0_0 a1_0).f1))))) ≥ 0))) else (some (wrap64 (a1_0 + 1), wrap64 (a1_1 - a2), wrap64 (a1_2 - (wrap64 (a2 * ((rd_T46 l0_0 a1_0).f1)))), false))) else (none)) else (none)) = some (r1, r2, r3, r4) := h
 clear h
 by_cases c4 : 0 ≤ a1_0
 ·as_aux_lemma =>
  rw [if_pos c4] at H
  have c4b0 : decide (0 ≤ a1_0) = true := decide_eq_true c4
  clear c4
  by_cases c5 : a1_0 < (l0_0.length : Int)
  ·as_aux_lemma =>
   rw [if_pos c5] at H
   have c5b0 : decide (a1_0 < (l0_0.length : Int)) = true := decide_eq_true c5
   clear c5
   by_cases c6 : (wrap64 (a1_1 - a2)) ≥ 0
   ·as_aux_lemma =>
    rw [if_pos c6] at H
    have c6b0 : decide (0 ≤ (wrap64 (a1_1 - a2))) = true := decide_eq_true c6
    clear c6
    simp only [Option.some.injEq, Prod.mk.injEq] at H
    obtain ⟨rfl, rfl, rfl, rfl⟩ := H
    go_enter Try.func39, Try.ntmps39
    try go_wp2_with (first | ((with_reducible refine gate_dst (N := 3) rfl ?_); refine box_event ?hg (N := 3) ?hd (cs := #[.slice A0_0 l0_0.length c0_0, .func (.func 29) #[] #[], .int .i64 a0_2, .map none, .map p4]) (t := 55) ?hr ?_; (case hd => rfl); (case hg => rfl); (case hr => first | (go_simp; done) | (go_simp; rfl)); intro gb193 hg w7 hbox hb; have n0_ := As0.mk (bsp (by repeat (with_reducible first | exact HB.out | apply bal | apply pbN | apply bdw)) hb); have n1_ := As0.mk (hbox); have n2_ := As0.mk ((by rw [hg]; exact (bsz (by repeat (with_reducible first | exact HB.out | apply bal | apply pbN | apply bdw))) : w.heap.size ≤ gb193)); have n3_ := As0.mk ((by rw [hg]; exact (bsz (by repeat (with_reducible first | exact HB.out | apply bal | apply pbN | apply bdw))) : w.heap.size ≤ gb193)); clear HB; have HB := n0_; have BK193 := n1_; have GW193 := n2_; have GE193 := n3_; clear n0_ n1_ n2_ n3_; clear hb hbox hg) | ((with_reducible refine gate_dst (N := 4) rfl ?_); refine box_event ?hg (N := 4) ?hd (cs := #[.int .i64 a1_0, .int .i64 a1_1, .int .i64 a1_2]) (t := 63) ?hr ?_; (case hd => rfl); (case hg => rfl); (case hr => first | (go_simp; done) | (go_simp; rfl)); intro gb194 hg w8 hbox hb; have n0_ := As0.mk (bkb (g := gb193) (o := .cells #[.slice A0_0 l0_0.length c0_0, .func (.func 29) #[] #[], .int .i64 a0_2, .map none, .map p4] 55 (0, 0)) (by (with_reducible repeat first | refine bkN ?_ _ | refine bkd ?_ | refine bka ?_ _); exact BK193.out) hb); have n1_ := As0.mk (bsp (by repeat (with_reducible first | exact HB.out | apply bal | apply pbN | apply bdw | refine bst ?_ GE193.out)) hb); have n2_ := As0.mk (hbox); have n3_ := As0.mk ((by rw [hg]; exact (bsz (by repeat (with_reducible first | exact HB.out | apply bal | apply pbN | apply bdw | refine bst ?_ GE193.out))) : w.heap.size ≤ gb194)); have n4_ := As0.mk ((by rw [hg]; exact (bsz (by repeat (with_reducible first | exact HB.out | apply bal | apply pbN | apply bdw | refine bst ?_ GE193.out))) : w.heap.size ≤ gb194)); have n5_ := As0.mk ((by rw [hg]; exact Nat.ne_of_lt (blk_lt (g := gb193) (o := .cells #[.slice A0_0 l0_0.length c0_0, .func (.func 29) #[] #[], .int .i64 a0_2, .map none, .map p4] 55 (0, 0)) (by (with_reducible repeat first | refine bkN ?_ _ | refine bkd ?_ | refine bka ?_ _); exact BK193.out)) : gb193 ≠ gb194)); have n6_ := As0.mk ((by rw [hg]; exact Nat.ne_of_gt (blk_lt (g := gb193) (o := .cells #[.slice A0_0 l0_0.length c0_0, .func (.func 29) #[] #[], .int .i64 a0_2, .map none, .map p4] 55 (0, 0)) (by (with_reducible repeat first | refine bkN ?_ _ | refine bkd ?_ | refine bka ?_ _); exact BK193.out)) : gb194 ≠ gb193)); clear BK193; clear HB; have BK193 := n0_; have HB := n1_; have BK194 := n2_; have GW194 := n3_; have GE194 := n4_; have NB193_194 := n5_; have NB194_193 := n6_; clear n0_ n1_ n2_ n3_ n4_ n5_ n6_; clear hb hbox hg) | ((with_reducible refine gate_dst (N := 6) rfl ?_); refine box_event ?hg (N := 6) ?hd (cs := #[.int .i64 0, .int .i64 0, .int .i64 0]) (t := 63) ?hr ?_; (case hd => rfl); (case hg => rfl); (case hr => first | (go_simp; done) | (go_simp; rfl)); intro gb195 hg w9 hbox hb; have n0_ := As0.mk (bkb (g := gb193) (o := .cells #[.slice A0_0 l0_0.length c0_0, .func (.func 29) #[] #[], .int .i64 a0_2, .map none, .map p4] 55 (0, 0)) (by (with_reducible repeat first | refine bkN ?_ _ | refine bkd ?_ | refine bka ?_ _); exact BK193.out) hb); have n1_ := As0.mk (bkb (g := gb194) (by (with_reducible repeat first | refine bkN ?_ _ | refine bkd ?_ | refine bka ?_ _); exact BK194.out) hb); have n2_ := As0.mk (bsp (by repeat (with_reducible first | exact HB.out | apply bal | apply pbN | apply bdw | refine bst ?_ GE193.out | refine bst ?_ GE194.out)) hb); have n3_ := As0.mk (hbox); have n4_ := As0.mk ((by rw [hg]; exact (bsz (by repeat (with_reducible first | exact HB.out | apply bal | apply pbN | apply bdw | refine bst ?_ GE193.out | refine bst ?_ GE194.out))) : w.heap.size ≤ gb195)); have n5_ := As0.mk ((by rw [hg]; exact (bsz (by repeat (with_reducible first | exact HB.out | apply bal | apply pbN | apply bdw | refine bst ?_ GE193.out | refine bst ?_ GE194.out))) : w.heap.size ≤ gb195)); have n6_ := As0.mk ((by rw [hg]; exact Nat.ne_of_lt (blk_lt (g := gb193) (o := .cells #[.slice A0_0 l0_0.length c0_0, .func (.func 29) #[] #[], .int .i64 a0_2, .map none, .map p4] 55 (0, 0)) (by (with_reducible repeat first | refine bkN ?_ _ | refine bkd ?_ | refine bka ?_ _); exact BK193.out)) : gb193 ≠ gb195)); have n7_ := As0.mk ((by rw [hg]; exact Nat.ne_of_gt (blk_lt (g := gb193) (o := .cells #[.slice A0_0 l0_0.length c0_0, .func (.func 29) #[] #[], .int .i64 a0_2, .map none, .map p4] 55 (0, 0)) (by (with_reducible repeat first | refine bkN ?_ _ | refine bkd ?_ | refine bka ?_ _); exact BK193.out)) : gb195 ≠ gb193)); have n8_ := As0.mk ((by rw [hg]; exact Nat.ne_of_lt (blk_lt (g := gb194) (o := .cells #[.int .i64 a1_0, .int .i64 a1_1, .int .i64 a1_2] 63 (0, 0)) (by (with_reducible repeat first | refine bkN ?_ _ | refine bkd ?_ | refine bka ?_ _); exact BK194.out)) : gb194 ≠ gb195)); have n9_ := As0.mk ((by rw [hg]; exact Nat.ne_of_gt (blk_lt (g := gb194) (o := .cells #[.int .i64 a1_0, .int .i64 a1_1, .int .i64 a1_2] 63 (0, 0)) (by (with_reducible repeat first | refine bkN ?_ _ | refine bkd ?_ | refine bka ?_ _); exact BK194.out)) : gb195 ≠ gb194)); clear BK193; clear BK194; clear HB; have BK193 := n0_; have BK194 := n1_; have HB := n2_; have BK195 := n3_; have GW195 := n4_; have GE195 := n5_; have NB193_195 := n6_; have NB195_193 := n7_; have NB194_195 := n8_; have NB195_194 := n9_; clear n0_ n1_ n2_ n3_ n4_ n5_ n6_ n7_ n8_ n9_; clear hb hbox hg))
    have n0_ := As0.mk (bkd BK193.out)
    have n1_ := As0.mk (bkd BK194.out)
    have n2_ := As0.mk (bkd BK195.out)
    have n3_ := As0.mk (bdw HB.out)
    clear BK193
    clear BK194
    clear BK195
    clear HB
    have BK193 := n0_
    have BK194 := n1_
    have BK195 := n2_
    have HB := n3_
    clear n0_ n1_ n2_ n3_
    have p196 : 0 ≤ (a1_0 : Int) := of_decide_eq_true (by assumption)
    have q196 : a1_0 < (l0_0.length : Int) := of_decide_eq_true (by assumption)
    obtain ⟨ad196, e196, hx196_0, hx196_1, hx196_2, hx196_3⟩ := at_T46 HR0_0.out a1_0 p196 q196
    have hw196_3 := hx196_3
    have hw196_2 := hx196_2
    have hw196_1 := hx196_1
    have hw196_0 := hx196_0
    cases e196
    replace hx196_0 := (HB.out.cell (blt w _ hx196_0)).trans hx196_0
    replace hx196_1 := (HB.out.cell (blt w _ hx196_1)).trans hx196_1
    replace hx196_2 := (HB.out.cell (blt w _ hx196_2)).trans hx196_2
    replace hx196_3 := (HB.out.cell (blt w _ hx196_3)).trans hx196_3
    replace p196 := eq_true p196
    replace q196 := eq_true q196
    refine start_ (n := 22) (S := fun w' => w'.cell? ⟨gb194, 0, none⟩ = some (.int .i64 a1_0) ∧ w'.cell? ⟨gb194, 1, none⟩ = some (.int .i64 a1_1) ∧ w'.cell? ⟨gb194, 2, none⟩ = some (.int .i64 a1_2) ∧ w'.cell? ⟨gb193, 0, none⟩ = some (.slice (some ad196) l0_0.length c0_0) ∧ w'.cell? ⟨gb193, 1, none⟩ = some (.func (.func 29) #[] #[]) ∧ w'.cell? ⟨gb193, 2, none⟩ = some (.int .i64 a0_2) ∧ w'.cell? ⟨gb193, 3, none⟩ = some (.map none) ∧ w'.cell? ⟨gb193, 4, none⟩ = some (.map p4) ∧ w'.cell? (ad196.add ((a1_0).toNat * 4)) = some (.string ((rd_T46 l0_0 a1_0).f0)) ∧ w'.cell? ⟨(ad196.add ((a1_0).toNat * 4)).block, (ad196.add ((a1_0).toNat * 4)).off + 1, none⟩ = some (.int .i64 ((rd_T46 l0_0 a1_0).f1)) ∧ w'.cell? ⟨(ad196.add ((a1_0).toNat * 4)).block, (ad196.add ((a1_0).toNat * 4)).off + 2, none⟩ = some (.int .i64 ((rd_T46 l0_0 a1_0).f2)) ∧ w'.cell? ⟨(ad196.add ((a1_0).toNat * 4)).block, (ad196.add ((a1_0).toNat * 4)).off + 3, none⟩ = some (.int .i64 ((rd_T46 l0_0 a1_0).f3))) (ds := []) #[false, false, false, false, false, false, false, false, false, false, false, false, false, false, false, false, false, false, false, false, false, false] (by kernel_rfl) rfl rfl ⟨(bkc BK194.out 0).trans rfl, (bkc BK194.out 1).trans rfl, (bkc BK194.out 2).trans rfl, (bkc BK193.out 0).trans rfl, (bkc BK193.out 1).trans rfl, (bkc BK193.out 2).trans rfl, (bkc BK193.out 3).trans rfl, (bkc BK193.out 4).trans rfl, ((HB.out.cell (blt w _ hw196_0)).trans hw196_0), ((HB.out.cell (blt w _ hw196_1)).trans hw196_1), ((HB.out.cell (blt w _ hw196_2)).trans hw196_2), ((HB.out.cell (blt w _ hw196_3)).trans hw196_3)⟩ (fun hHeld => ?_); refine with_tabW impl_mixes_after.tab1 impl_mixes_after.bits1 (fun HT_ HW_ => ?_)
    generalize w9.drew = w10 at BK193 BK194 BK195 HB hx196_0 hx196_1 hx196_2 hx196_3 hHeld ⊢
    refine pure_ (i := 0) (N := some 9) (v := ?_) (a' := ?_) #[true, false, false, false, false, false, false, false, false, false, false, false, false, false, false, false, false, false, false, false, false, false] rfl rfl (any_of HT_.out (by kernel_rfl)) (fun _ _ _ h => h) (Or.inl ⟨by rfl, ?_⟩) ?_ ?_
    rotate_left
    ·intro w'
     go_simp
     with_reducible rfl
    rotate_left
    ·simp only [Act.put, sla, slz, sls, i64_w, i32_w]
     rfl
    refine pure_ (i := 3) (N := some 12) (v := ?_) (a' := ?_) #[true, false, false, true, false, false, false, false, false, false, false, false, false, false, false, false, false, false, false, false, false, false] rfl rfl (any_of HT_.out (by kernel_rfl)) (fun _ _ _ h => h) (Or.inl ⟨by rfl, ?_⟩) ?_ ?_
    rotate_left
    ·intro w'
     go_simp
     with_reducible rfl
    rotate_left
    ·simp only [Act.put, sla, slz, sls, i64_w, i32_w]
     rfl
    refine pure_ (i := 5) (N := some 14) (v := ?_) (a' := ?_) #[true, false, false, true, false, true, false, false, false, false, false, false, false, false, false, false, false, false, false, false, false, false] rfl rfl (any_of HT_.out (by kernel_rfl)) (fun _ _ _ h => h) (Or.inl ⟨by rfl, ?_⟩) ?_ ?_
    rotate_left
    ·intro w'
     go_simp
     with_reducible rfl
    rotate_left
    ·simp only [Act.put, sla, slz, sls, i64_w, i32_w]
     rfl
    refine pure_ (i := 7) (N := some 16) (v := ?_) (a' := ?_) #[true, false, false, true, false, true, false, true, false, false, false, false, false, false, false, false, false, false, false, false, false, false] rfl rfl (any_of HT_.out (by kernel_rfl)) (fun _ _ _ h => h) (Or.inl ⟨by rfl, ?_⟩) ?_ ?_
    rotate_left
    ·intro w'
     go_simp
     with_reducible rfl
    rotate_left
    ·simp only [Act.put, sla, slz, sls, i64_w, i32_w]
     rfl
    refine pure_ (i := 9) (N := some 18) (v := ?_) (a' := ?_) #[true, false, false, true, false, true, false, true, false, true, false, false, false, false, false, false, false, false, false, false, false, false] rfl rfl (any_of HT_.out (by kernel_rfl)) (fun _ _ _ h => h) (Or.inl ⟨by rfl, ?_⟩) ?_ ?_
    rotate_left
    ·intro w'
     go_simp
     with_reducible rfl
    rotate_left
    ·simp only [Act.put, sla, slz, sls, i64_w, i32_w]
     rfl
    refine pure_ (i := 10) (N := some 19) (v := ?_) (a' := ?_) #[true, false, false, true, false, true, false, true, false, true, true, false, false, false, false, false, false, false, false, false, false, false] rfl rfl (any_of HT_.out (by kernel_rfl)) (fun _ _ _ h => h) (Or.inl ⟨by rfl, ?_⟩) ?_ ?_
    rotate_left
    ·intro w'
     go_simp
     with_reducible rfl
    rotate_left
    ·simp only [Act.put, sla, slz, sls, i64_w, i32_w]
     rfl
    refine pure_ (i := 12) (N := some 21) (v := ?_) (a' := ?_) #[true, false, false, true, false, true, false, true, false, true, true, false, true, false, false, false, false, false, false, false, false, false] rfl rfl (any_of HT_.out (by kernel_rfl)) (fun _ _ _ h => h) (Or.inl ⟨by rfl, ?_⟩) ?_ ?_
    rotate_left
    ·intro w'
     go_simp
     with_reducible rfl
    rotate_left
    ·simp only [Act.put, sla, slz, sls, i64_w, i32_w]
     rfl
    refine take_ (i := 1) (N := some 10) (v := ?_) (a' := ?_) #[true, true, false, true, false, true, false, true, false, true, true, false, true, false, false, false, false, false, false, false, false, false] rfl rfl (take_ofW HT_.out HW_.out (by kernel_rfl)) (fun _ _ _ h => h) (Or.inl ⟨by rfl, ?_⟩) hHeld ?_ ?_
    rotate_left
    ·rintro w' ⟨s0, s1, s2, s3, s4, s5, s6, s7, s8, s9, s10, s11⟩
     go_simp
     with_reducible rfl
    rotate_left
    ·simp only [Act.put, sla, slz, sls, i64_w, i32_w]
     rfl
    refine pure_ (i := 2) (N := some 11) (v := ?_) (a' := ?_) #[true, true, true, true, false, true, false, true, false, true, true, false, true, false, false, false, false, false, false, false, false, false] rfl rfl (any_of HT_.out (by kernel_rfl)) (fun _ _ _ h => h) (Or.inl ⟨by rfl, ?_⟩) ?_ ?_
    rotate_left
    ·intro w'
     go_simp
     with_reducible rfl
    rotate_left
    ·simp only [Act.put, sla, slz, sls, i64_w, i32_w]
     rfl
    refine take_ (i := 4) (N := some 13) (v := ?_) (a' := ?_) #[true, true, true, true, true, true, false, true, false, true, true, false, true, false, false, false, false, false, false, false, false, false] rfl rfl (take_ofW HT_.out HW_.out (by kernel_rfl)) (fun _ _ _ h => h) (Or.inl ⟨by rfl, ?_⟩) hHeld ?_ ?_
    rotate_left
    ·rintro w' ⟨s0, s1, s2, s3, s4, s5, s6, s7, s8, s9, s10, s11⟩
     go_simp
     with_reducible rfl
    rotate_left
    ·simp only [Act.put, sla, slz, sls, i64_w, i32_w]
     rfl
    refine pure_ (i := 6) (N := some 15) (v := ?_) (a' := ?_) #[true, true, true, true, true, true, true, true, false, true, true, false, true, false, false, false, false, false, false, false, false, false] rfl rfl (any_of HT_.out (by kernel_rfl)) (fun _ _ _ h => h) (Or.inl ⟨by rfl, ?_⟩) ?_ ?_
    rotate_left
    ·intro w'
     go_simp
     with_reducible rfl
    rotate_left
    ·simp only [Act.put, sla, slz, sls, i64_w, i32_w]
     rfl
    refine take_ (i := 8) (N := some 17) (v := ?_) (a' := ?_) #[true, true, true, true, true, true, true, true, true, true, true, false, true, false, false, false, false, false, false, false, false, false] rfl rfl (take_ofW HT_.out HW_.out (by kernel_rfl)) (fun _ _ _ h => h) (Or.inl ⟨by rfl, ?_⟩) hHeld ?_ ?_
    rotate_left
    ·rintro w' ⟨s0, s1, s2, s3, s4, s5, s6, s7, s8, s9, s10, s11⟩
     go_simp
     with_reducible rfl
    rotate_left
    ·simp only [Act.put, sla, slz, sls, i64_w, i32_w]
     rfl
    refine take_ (i := 11) (N := some 20) (v := ?_) (a' := ?_) #[true, true, true, true, true, true, true, true, true, true, true, true, true, false, false, false, false, false, false, false, false, false] rfl rfl (take_ofW HT_.out HW_.out (by kernel_rfl)) (fun _ _ _ h => h) (Or.inl ⟨by rfl, ?_⟩) hHeld ?_ ?_
    rotate_left
    ·rintro w' ⟨s0, s1, s2, s3, s4, s5, s6, s7, s8, s9, s10, s11⟩
     go_simp
     with_reducible rfl
    rotate_left
    ·simp only [Act.put, sla, slz, sls, i64_w, i32_w]
     rfl
    refine take_ (i := 13) (N := some 22) (v := ?_) (a' := ?_) #[true, true, true, true, true, true, true, true, true, true, true, true, true, true, false, false, false, false, false, false, false, false] rfl rfl (take_ofW HT_.out HW_.out (by kernel_rfl)) (fun _ _ _ h => h) (Or.inl ⟨by rfl, ?_⟩) hHeld ?_ ?_
    rotate_left
    ·rintro w' ⟨s0, s1, s2, s3, s4, s5, s6, s7, s8, s9, s10, s11⟩
     go_simp
     with_reducible rfl
    rotate_left
    ·simp only [Act.put, sla, slz, sls, i64_w, i32_w]
     rfl
    refine pure_ (i := 14) (N := some 23) (v := ?_) (a' := ?_) #[true, true, true, true, true, true, true, true, true, true, true, true, true, true, true, false, false, false, false, false, false, false] rfl rfl (any_of HT_.out (by kernel_rfl)) (fun _ _ _ h => h) (Or.inl ⟨by rfl, ?_⟩) ?_ ?_
    rotate_left
    ·intro w'
     go_simp
     with_reducible rfl
    rotate_left
    ·simp only [Act.put, sla, slz, sls, i64_w, i32_w]
     rfl
    refine pure_ (i := 15) (N := some 24) (v := ?_) (a' := ?_) #[true, true, true, true, true, true, true, true, true, true, true, true, true, true, true, true, false, false, false, false, false, false] rfl rfl (any_of HT_.out (by kernel_rfl)) (fun _ _ _ h => h) (Or.inl ⟨by rfl, ?_⟩) ?_ ?_
    rotate_left
    ·intro w'
     go_simp
     with_reducible rfl
    rotate_left
    ·simp only [Act.put, sla, slz, sls, i64_w, i32_w]
     rfl
    refine take_ (i := 16) (N := some 25) (v := ?_) (a' := ?_) #[true, true, true, true, true, true, true, true, true, true, true, true, true, true, true, true, true, false, false, false, false, false] rfl rfl (take_ofW HT_.out HW_.out (by kernel_rfl)) (fun _ _ _ h => h) (Or.inl ⟨by rfl, ?_⟩) hHeld ?_ ?_
    rotate_left
    ·rintro w' ⟨s0, s1, s2, s3, s4, s5, s6, s7, s8, s9, s10, s11⟩
     go_simp
     with_reducible rfl
    rotate_left
    ·simp only [Act.put, sla, slz, sls, i64_w, i32_w]
     rfl
    refine pure_ (i := 17) (N := some 26) (v := ?_) (a' := ?_) #[true, true, true, true, true, true, true, true, true, true, true, true, true, true, true, true, true, true, false, false, false, false] rfl rfl (any_of HT_.out (by kernel_rfl)) (fun _ _ _ h => h) (Or.inl ⟨by rfl, ?_⟩) ?_ ?_
    rotate_left
    ·intro w'
     go_simp
     with_reducible rfl
    rotate_left
    ·simp only [Act.put, sla, slz, sls, i64_w, i32_w]
     rfl
    refine pure_ (i := 18) (N := some 27) (v := ?_) (a' := ?_) #[true, true, true, true, true, true, true, true, true, true, true, true, true, true, true, true, true, true, true, false, false, false] rfl rfl (any_of HT_.out (by kernel_rfl)) (fun _ _ _ h => h) (Or.inl ⟨by rfl, ?_⟩) ?_ ?_
    rotate_left
    ·intro w'
     go_simp
     with_reducible rfl
    rotate_left
    ·simp only [Act.put, sla, slz, sls, i64_w, i32_w]
     rfl
    refine pure_ (i := 19) (N := some 28) (v := ?_) (a' := ?_) #[true, true, true, true, true, true, true, true, true, true, true, true, true, true, true, true, true, true, true, true, false, false] rfl rfl (any_of HT_.out (by kernel_rfl)) (fun _ _ _ h => h) (Or.inl ⟨by rfl, ?_⟩) ?_ ?_
    rotate_left
    ·intro w'
     go_simp
     with_reducible rfl
    rotate_left
    ·simp only [Act.put, sla, slz, sls, i64_w, i32_w]
     rfl
    refine one_ (i := 20) (N := some 8) #[true, true, true, true, true, true, true, true, true, true, true, true, true, true, true, true, true, true, true, true, true, false] rfl rfl (one_of HT_.out (by kernel_rfl)) (by decide) (fun K hK => ?_)
    refine box_step ?hg (N := 8) ?hd (cs := #[.int .i64 0, .int .i64 0, .int .i64 0]) (t := 63) ?hr ?_; (case hd => rfl); (case hg => rfl); (case hr => first | (go_simp; done) | (go_simp; rfl))
    intro gb197 hg w11 hbox hb
    have n0_ := As0.mk (bkb (g := gb193) (o := .cells #[.slice (some ad196) l0_0.length c0_0, .func (.func 29) #[] #[], .int .i64 a0_2, .map none, .map p4] 55 (0, 0)) (by (with_reducible repeat first | refine bkN ?_ _ | refine bkd ?_ | refine bka ?_ _); exact BK193.out) hb)
    have n1_ := As0.mk (bkb (g := gb194) (by (with_reducible repeat first | refine bkN ?_ _ | refine bkd ?_ | refine bka ?_ _); exact BK194.out) hb)
    have n2_ := As0.mk (bkb (g := gb195) (by (with_reducible repeat first | refine bkN ?_ _ | refine bkd ?_ | refine bka ?_ _); exact BK195.out) hb)
    have n3_ := As0.mk (bsp (by repeat (with_reducible first | exact HB.out | apply bal | apply pbN | apply bdw | refine bst ?_ GE193.out | refine bst ?_ GE194.out | refine bst ?_ GE195.out)) hb)
    have n4_ := As0.mk (hbox)
    have n5_ := As0.mk ((by rw [hg]; exact (bsz (by repeat (with_reducible first | exact HB.out | apply bal | apply pbN | apply bdw | refine bst ?_ GE193.out | refine bst ?_ GE194.out | refine bst ?_ GE195.out))) : w.heap.size ≤ gb197))
    have n6_ := As0.mk ((by rw [hg]; exact (bsz (by repeat (with_reducible first | exact HB.out | apply bal | apply pbN | apply bdw | refine bst ?_ GE193.out | refine bst ?_ GE194.out | refine bst ?_ GE195.out))) : w.heap.size ≤ gb197))
    have n7_ := As0.mk ((by rw [hg]; exact Nat.ne_of_lt (blk_lt (g := gb193) (o := .cells #[.slice (some ad196) l0_0.length c0_0, .func (.func 29) #[] #[], .int .i64 a0_2, .map none, .map p4] 55 (0, 0)) (by (with_reducible repeat first | refine bkN ?_ _ | refine bkd ?_ | refine bka ?_ _); exact BK193.out)) : gb193 ≠ gb197))
    have n8_ := As0.mk ((by rw [hg]; exact Nat.ne_of_gt (blk_lt (g := gb193) (o := .cells #[.slice (some ad196) l0_0.length c0_0, .func (.func 29) #[] #[], .int .i64 a0_2, .map none, .map p4] 55 (0, 0)) (by (with_reducible repeat first | refine bkN ?_ _ | refine bkd ?_ | refine bka ?_ _); exact BK193.out)) : gb197 ≠ gb193))
    have n9_ := As0.mk ((by rw [hg]; exact Nat.ne_of_lt (blk_lt (g := gb194) (o := .cells #[.int .i64 a1_0, .int .i64 a1_1, .int .i64 a1_2] 63 (0, 0)) (by (with_reducible repeat first | refine bkN ?_ _ | refine bkd ?_ | refine bka ?_ _); exact BK194.out)) : gb194 ≠ gb197))
    have n10_ := As0.mk ((by rw [hg]; exact Nat.ne_of_gt (blk_lt (g := gb194) (o := .cells #[.int .i64 a1_0, .int .i64 a1_1, .int .i64 a1_2] 63 (0, 0)) (by (with_reducible repeat first | refine bkN ?_ _ | refine bkd ?_ | refine bka ?_ _); exact BK194.out)) : gb197 ≠ gb194))
    have n11_ := As0.mk ((by rw [hg]; exact Nat.ne_of_lt (blk_lt (g := gb195) (o := .cells #[.int .i64 0, .int .i64 0, .int .i64 0] 63 (0, 0)) (by (with_reducible repeat first | refine bkN ?_ _ | refine bkd ?_ | refine bka ?_ _); exact BK195.out)) : gb195 ≠ gb197))
    have n12_ := As0.mk ((by rw [hg]; exact Nat.ne_of_gt (blk_lt (g := gb195) (o := .cells #[.int .i64 0, .int .i64 0, .int .i64 0] 63 (0, 0)) (by (with_reducible repeat first | refine bkN ?_ _ | refine bkd ?_ | refine bka ?_ _); exact BK195.out)) : gb197 ≠ gb195))
    clear BK193
    clear BK194
    clear BK195
    clear HB
    have BK193 := n0_
    have BK194 := n1_
    have BK195 := n2_
    have HB := n3_
    have BK197 := n4_
    have GW197 := n5_
    have GE197 := n6_
    have NB193_197 := n7_
    have NB197_193 := n8_
    have NB194_197 := n9_
    have NB197_194 := n10_
    have NB195_197 := n11_
    have NB197_195 := n12_
    clear n0_ n1_ n2_ n3_ n4_ n5_ n6_ n7_ n8_ n9_ n10_ n11_ n12_
    clear hb hbox hg
    refine hK.out _ _ ⟨(bkc BK194.out 0).trans rfl, (bkc BK194.out 1).trans rfl, (bkc BK194.out 2).trans rfl, (bkc BK193.out 0).trans rfl, (bkc BK193.out 1).trans rfl, (bkc BK193.out 2).trans rfl, (bkc BK193.out 3).trans rfl, (bkc BK193.out 4).trans rfl, ((HB.out.cell (blt w _ hw196_0)).trans hw196_0), ((HB.out.cell (blt w _ hw196_1)).trans hw196_1), ((HB.out.cell (blt w _ hw196_2)).trans hw196_2), ((HB.out.cell (blt w _ hw196_3)).trans hw196_3)⟩ (fun hHeld => ?_)
    clear hK K
    refine norm_ (a' := ?_) ?_ ?_
    rotate_left
    ·show Act.put _ (some 8) _ = _
     simp only [Act.put, sla, slz, sls, i64_w, i32_w]
     rfl
    refine one_ (i := 21) (N := none) #[true, true, true, true, true, true, true, true, true, true, true, true, true, true, true, true, true, true, true, true, true, true] rfl rfl (one_of HT_.out (by kernel_rfl)) (by decide) (fun K hK => ?_)
    have hs12 : w11.cell? ⟨gb197, 0, none⟩ = some (.int .i64 0) := (bkc BK197.out 0).trans rfl
    have hfs12 := bkf BK197.out 0
    have hns12_0 := NB193_197.out
    have hns12_1 := NB194_197.out
    have hns12_2 := NB195_197.out
    have hms12_0 := NB197_193.out
    have hms12_1 := NB197_194.out
    have hms12_2 := NB197_195.out
    have hs13 : w11.cell? ⟨gb197, 1, none⟩ = some (.int .i64 0) := (bkc BK197.out 1).trans rfl
    have hfs13 := bkf BK197.out 1
    have hns13_0 := NB193_197.out
    have hns13_1 := NB194_197.out
    have hns13_2 := NB195_197.out
    have hms13_0 := NB197_193.out
    have hms13_1 := NB197_194.out
    have hms13_2 := NB197_195.out
    have hs14 : w11.cell? ⟨gb197, 2, none⟩ = some (.int .i64 0) := (bkc BK197.out 2).trans rfl
    have hfs14 := bkf BK197.out 2
    have hns14_0 := NB193_197.out
    have hns14_1 := NB194_197.out
    have hns14_2 := NB195_197.out
    have hms14_0 := NB197_193.out
    have hms14_1 := NB197_194.out
    have hms14_2 := NB197_195.out
    refine skip_ (w1 := ?_) (by rfl) rfl ?_ ?_
    rotate_left
    ·go_simp
     rfl
    refine hK.out _ _ ⟨((cell_far (p := ⟨gb197, _, none⟩) NB194_197.out _).trans (((cell_far (p := ⟨gb197, _, none⟩) NB194_197.out _).trans (((cell_far (p := ⟨gb197, _, none⟩) NB194_197.out _).trans (hHeld.1)))))), ((cell_far (p := ⟨gb197, _, none⟩) NB194_197.out _).trans (((cell_far (p := ⟨gb197, _, none⟩) NB194_197.out _).trans (((cell_far (p := ⟨gb197, _, none⟩) NB194_197.out _).trans (hHeld.2.1)))))), ((cell_far (p := ⟨gb197, _, none⟩) NB194_197.out _).trans (((cell_far (p := ⟨gb197, _, none⟩) NB194_197.out _).trans (((cell_far (p := ⟨gb197, _, none⟩) NB194_197.out _).trans (hHeld.2.2.1)))))), ((cell_far (p := ⟨gb197, _, none⟩) NB193_197.out _).trans (((cell_far (p := ⟨gb197, _, none⟩) NB193_197.out _).trans (((cell_far (p := ⟨gb197, _, none⟩) NB193_197.out _).trans (hHeld.2.2.2.1)))))), ((cell_far (p := ⟨gb197, _, none⟩) NB193_197.out _).trans (((cell_far (p := ⟨gb197, _, none⟩) NB193_197.out _).trans (((cell_far (p := ⟨gb197, _, none⟩) NB193_197.out _).trans (hHeld.2.2.2.2.1)))))), ((cell_far (p := ⟨gb197, _, none⟩) NB193_197.out _).trans (((cell_far (p := ⟨gb197, _, none⟩) NB193_197.out _).trans (((cell_far (p := ⟨gb197, _, none⟩) NB193_197.out _).trans (hHeld.2.2.2.2.2.1)))))), ((cell_far (p := ⟨gb197, _, none⟩) NB193_197.out _).trans (((cell_far (p := ⟨gb197, _, none⟩) NB193_197.out _).trans (((cell_far (p := ⟨gb197, _, none⟩) NB193_197.out _).trans (hHeld.2.2.2.2.2.2.1)))))), ((cell_far (p := ⟨gb197, _, none⟩) NB193_197.out _).trans (((cell_far (p := ⟨gb197, _, none⟩) NB193_197.out _).trans (((cell_far (p := ⟨gb197, _, none⟩) NB193_197.out _).trans (hHeld.2.2.2.2.2.2.2.1)))))), ((cell_far (p := ⟨gb197, _, none⟩) (by first | exact Nat.ne_of_lt (Nat.lt_of_lt_of_le (by have := World.block_lt_of_cell? _ _ hw196_0; first | rwa [add_block] at this | exact this) GW197.out) | (rw [add_block]; exact Nat.ne_of_lt (Nat.lt_of_lt_of_le (by have := World.block_lt_of_cell? _ _ hw196_0; first | rwa [add_block] at this | exact this) GW197.out)) | (show (Addr.add _ _).block ≠ _; rw [add_block]; exact Nat.ne_of_lt (Nat.lt_of_lt_of_le (by have := World.block_lt_of_cell? _ _ hw196_0; first | rwa [add_block] at this | exact this) GW197.out)) | (dsimp only; exact Nat.ne_of_lt (Nat.lt_of_lt_of_le (by have := World.block_lt_of_cell? _ _ hw196_0; first | rwa [add_block] at this | exact this) GW197.out))) _).trans (((cell_far (p := ⟨gb197, _, none⟩) (by first | exact Nat.ne_of_lt (Nat.lt_of_lt_of_le (by have := World.block_lt_of_cell? _ _ hw196_0; first | rwa [add_block] at this | exact this) GW197.out) | (rw [add_block]; exact Nat.ne_of_lt (Nat.lt_of_lt_of_le (by have := World.block_lt_of_cell? _ _ hw196_0; first | rwa [add_block] at this | exact this) GW197.out)) | (show (Addr.add _ _).block ≠ _; rw [add_block]; exact Nat.ne_of_lt (Nat.lt_of_lt_of_le (by have := World.block_lt_of_cell? _ _ hw196_0; first | rwa [add_block] at this | exact this) GW197.out)) | (dsimp only; exact Nat.ne_of_lt (Nat.lt_of_lt_of_le (by have := World.block_lt_of_cell? _ _ hw196_0; first | rwa [add_block] at this | exact this) GW197.out))) _).trans (((cell_far (p := ⟨gb197, _, none⟩) (by first | exact Nat.ne_of_lt (Nat.lt_of_lt_of_le (by have := World.block_lt_of_cell? _ _ hw196_0; first | rwa [add_block] at this | exact this) GW197.out) | (rw [add_block]; exact Nat.ne_of_lt (Nat.lt_of_lt_of_le (by have := World.block_lt_of_cell? _ _ hw196_0; first | rwa [add_block] at this | exact this) GW197.out)) | (show (Addr.add _ _).block ≠ _; rw [add_block]; exact Nat.ne_of_lt (Nat.lt_of_lt_of_le (by have := World.block_lt_of_cell? _ _ hw196_0; first | rwa [add_block] at this | exact this) GW197.out)) | (dsimp only; exact Nat.ne_of_lt (Nat.lt_of_lt_of_le (by have := World.block_lt_of_cell? _ _ hw196_0; first | rwa [add_block] at this | exact this) GW197.out))) _).trans (hHeld.2.2.2.2.2.2.2.2.1)))))), ((cell_far (p := ⟨gb197, _, none⟩) (by first | exact Nat.ne_of_lt (Nat.lt_of_lt_of_le (by have := World.block_lt_of_cell? _ _ hw196_1; first | rwa [add_block] at this | exact this) GW197.out) | (rw [add_block]; exact Nat.ne_of_lt (Nat.lt_of_lt_of_le (by have := World.block_lt_of_cell? _ _ hw196_1; first | rwa [add_block] at this | exact this) GW197.out)) | (show (Addr.add _ _).block ≠ _; rw [add_block]; exact Nat.ne_of_lt (Nat.lt_of_lt_of_le (by have := World.block_lt_of_cell? _ _ hw196_1; first | rwa [add_block] at this | exact this) GW197.out)) | (dsimp only; exact Nat.ne_of_lt (Nat.lt_of_lt_of_le (by have := World.block_lt_of_cell? _ _ hw196_1; first | rwa [add_block] at this | exact this) GW197.out))) _).trans (((cell_far (p := ⟨gb197, _, none⟩) (by first | exact Nat.ne_of_lt (Nat.lt_of_lt_of_le (by have := World.block_lt_of_cell? _ _ hw196_1; first | rwa [add_block] at this | exact this) GW197.out) | (rw [add_block]; exact Nat.ne_of_lt (Nat.lt_of_lt_of_le (by have := World.block_lt_of_cell? _ _ hw196_1; first | rwa [add_block] at this | exact this) GW197.out)) | (show (Addr.add _ _).block ≠ _; rw [add_block]; exact Nat.ne_of_lt (Nat.lt_of_lt_of_le (by have := World.block_lt_of_cell? _ _ hw196_1; first | rwa [add_block] at this | exact this) GW197.out)) | (dsimp only; exact Nat.ne_of_lt (Nat.lt_of_lt_of_le (by have := World.block_lt_of_cell? _ _ hw196_1; first | rwa [add_block] at this | exact this) GW197.out))) _).trans (((cell_far (p := ⟨gb197, _, none⟩) (by first | exact Nat.ne_of_lt (Nat.lt_of_lt_of_le (by have := World.block_lt_of_cell? _ _ hw196_1; first | rwa [add_block] at this | exact this) GW197.out) | (rw [add_block]; exact Nat.ne_of_lt (Nat.lt_of_lt_of_le (by have := World.block_lt_of_cell? _ _ hw196_1; first | rwa [add_block] at this | exact this) GW197.out)) | (show (Addr.add _ _).block ≠ _; rw [add_block]; exact Nat.ne_of_lt (Nat.lt_of_lt_of_le (by have := World.block_lt_of_cell? _ _ hw196_1; first | rwa [add_block] at this | exact this) GW197.out)) | (dsimp only; exact Nat.ne_of_lt (Nat.lt_of_lt_of_le (by have := World.block_lt_of_cell? _ _ hw196_1; first | rwa [add_block] at this | exact this) GW197.out))) _).trans (hHeld.2.2.2.2.2.2.2.2.2.1)))))), ((cell_far (p := ⟨gb197, _, none⟩) (by first | exact Nat.ne_of_lt (Nat.lt_of_lt_of_le (by have := World.block_lt_of_cell? _ _ hw196_2; first | rwa [add_block] at this | exact this) GW197.out) | (rw [add_block]; exact Nat.ne_of_lt (Nat.lt_of_lt_of_le (by have := World.block_lt_of_cell? _ _ hw196_2; first | rwa [add_block] at this | exact this) GW197.out)) | (show (Addr.add _ _).block ≠ _; rw [add_block]; exact Nat.ne_of_lt (Nat.lt_of_lt_of_le (by have := World.block_lt_of_cell? _ _ hw196_2; first | rwa [add_block] at this | exact this) GW197.out)) | (dsimp only; exact Nat.ne_of_lt (Nat.lt_of_lt_of_le (by have := World.block_lt_of_cell? _ _ hw196_2; first | rwa [add_block] at this | exact this) GW197.out))) _).trans (((cell_far (p := ⟨gb197, _, none⟩) (by first | exact Nat.ne_of_lt (Nat.lt_of_lt_of_le (by have := World.block_lt_of_cell? _ _ hw196_2; first | rwa [add_block] at this | exact this) GW197.out) | (rw [add_block]; exact Nat.ne_of_lt (Nat.lt_of_lt_of_le (by have := World.block_lt_of_cell? _ _ hw196_2; first | rwa [add_block] at this | exact this) GW197.out)) | (show (Addr.add _ _).block ≠ _; rw [add_block]; exact Nat.ne_of_lt (Nat.lt_of_lt_of_le (by have := World.block_lt_of_cell? _ _ hw196_2; first | rwa [add_block] at this | exact this) GW197.out)) | (dsimp only; exact Nat.ne_of_lt (Nat.lt_of_lt_of_le (by have := World.block_lt_of_cell? _ _ hw196_2; first | rwa [add_block] at this | exact this) GW197.out))) _).trans (((cell_far (p := ⟨gb197, _, none⟩) (by first | exact Nat.ne_of_lt (Nat.lt_of_lt_of_le (by have := World.block_lt_of_cell? _ _ hw196_2; first | rwa [add_block] at this | exact this) GW197.out) | (rw [add_block]; exact Nat.ne_of_lt (Nat.lt_of_lt_of_le (by have := World.block_lt_of_cell? _ _ hw196_2; first | rwa [add_block] at this | exact this) GW197.out)) | (show (Addr.add _ _).block ≠ _; rw [add_block]; exact Nat.ne_of_lt (Nat.lt_of_lt_of_le (by have := World.block_lt_of_cell? _ _ hw196_2; first | rwa [add_block] at this | exact this) GW197.out)) | (dsimp only; exact Nat.ne_of_lt (Nat.lt_of_lt_of_le (by have := World.block_lt_of_cell? _ _ hw196_2; first | rwa [add_block] at this | exact this) GW197.out))) _).trans (hHeld.2.2.2.2.2.2.2.2.2.2.1)))))), ((cell_far (p := ⟨gb197, _, none⟩) (by first | exact Nat.ne_of_lt (Nat.lt_of_lt_of_le (by have := World.block_lt_of_cell? _ _ hw196_3; first | rwa [add_block] at this | exact this) GW197.out) | (rw [add_block]; exact Nat.ne_of_lt (Nat.lt_of_lt_of_le (by have := World.block_lt_of_cell? _ _ hw196_3; first | rwa [add_block] at this | exact this) GW197.out)) | (show (Addr.add _ _).block ≠ _; rw [add_block]; exact Nat.ne_of_lt (Nat.lt_of_lt_of_le (by have := World.block_lt_of_cell? _ _ hw196_3; first | rwa [add_block] at this | exact this) GW197.out)) | (dsimp only; exact Nat.ne_of_lt (Nat.lt_of_lt_of_le (by have := World.block_lt_of_cell? _ _ hw196_3; first | rwa [add_block] at this | exact this) GW197.out))) _).trans (((cell_far (p := ⟨gb197, _, none⟩) (by first | exact Nat.ne_of_lt (Nat.lt_of_lt_of_le (by have := World.block_lt_of_cell? _ _ hw196_3; first | rwa [add_block] at this | exact this) GW197.out) | (rw [add_block]; exact Nat.ne_of_lt (Nat.lt_of_lt_of_le (by have := World.block_lt_of_cell? _ _ hw196_3; first | rwa [add_block] at this | exact this) GW197.out)) | (show (Addr.add _ _).block ≠ _; rw [add_block]; exact Nat.ne_of_lt (Nat.lt_of_lt_of_le (by have := World.block_lt_of_cell? _ _ hw196_3; first | rwa [add_block] at this | exact this) GW197.out)) | (dsimp only; exact Nat.ne_of_lt (Nat.lt_of_lt_of_le (by have := World.block_lt_of_cell? _ _ hw196_3; first | rwa [add_block] at this | exact this) GW197.out))) _).trans (((cell_far (p := ⟨gb197, _, none⟩) (by first | exact Nat.ne_of_lt (Nat.lt_of_lt_of_le (by have := World.block_lt_of_cell? _ _ hw196_3; first | rwa [add_block] at this | exact this) GW197.out) | (rw [add_block]; exact Nat.ne_of_lt (Nat.lt_of_lt_of_le (by have := World.block_lt_of_cell? _ _ hw196_3; first | rwa [add_block] at this | exact this) GW197.out)) | (show (Addr.add _ _).block ≠ _; rw [add_block]; exact Nat.ne_of_lt (Nat.lt_of_lt_of_le (by have := World.block_lt_of_cell? _ _ hw196_3; first | rwa [add_block] at this | exact this) GW197.out)) | (dsimp only; exact Nat.ne_of_lt (Nat.lt_of_lt_of_le (by have := World.block_lt_of_cell? _ _ hw196_3; first | rwa [add_block] at this | exact this) GW197.out))) _).trans (hHeld.2.2.2.2.2.2.2.2.2.2.2))))))⟩ (fun hHeld => ?_)
    clear hK K
    refine done_ (done_of HT_.out (by kernel_rfl)) ?_
    try go_wp2
    have n0_ : As0 ((((w11.setCell ⟨gb197, 0, none⟩ (.int .i64 (wrap64 (a1_0 + 1)))).setCell ⟨gb197, 1, none⟩ (.int .i64 (wrap64 (a1_1 - a2)))).setCell ⟨gb197, 2, none⟩ (.int .i64 (wrap64 (a1_2 - (wrap64 (a2 * ((rd_T46 l0_0 a1_0).f1))))))).heap[gb193]? = some (.cells #[.slice (some ad196) l0_0.length c0_0, .func (.func 29) #[] #[], .int .i64 a0_2, .map none, .map p4] 55 (0, 0))) := ⟨by (with_reducible repeat first | refine bkN ?_ _ | refine bkd ?_ | refine bka ?_ _); refine blk_far ?_ NB193_197.out _; (with_reducible repeat first | refine bkN ?_ _ | refine bkd ?_ | refine bka ?_ _); refine blk_far ?_ NB193_197.out _; (with_reducible repeat first | refine bkN ?_ _ | refine bkd ?_ | refine bka ?_ _); refine blk_far ?_ NB193_197.out _; (with_reducible repeat first | refine bkN ?_ _ | refine bkd ?_ | refine bka ?_ _); exact BK193.out⟩
    have n1_ : As0 ((((w11.setCell ⟨gb197, 0, none⟩ (.int .i64 (wrap64 (a1_0 + 1)))).setCell ⟨gb197, 1, none⟩ (.int .i64 (wrap64 (a1_1 - a2)))).setCell ⟨gb197, 2, none⟩ (.int .i64 (wrap64 (a1_2 - (wrap64 (a2 * ((rd_T46 l0_0 a1_0).f1))))))).heap[gb194]? = some (.cells #[.int .i64 a1_0, .int .i64 a1_1, .int .i64 a1_2] 63 (0, 0))) := ⟨by (with_reducible repeat first | refine bkN ?_ _ | refine bkd ?_ | refine bka ?_ _); refine blk_far ?_ NB194_197.out _; (with_reducible repeat first | refine bkN ?_ _ | refine bkd ?_ | refine bka ?_ _); refine blk_far ?_ NB194_197.out _; (with_reducible repeat first | refine bkN ?_ _ | refine bkd ?_ | refine bka ?_ _); refine blk_far ?_ NB194_197.out _; (with_reducible repeat first | refine bkN ?_ _ | refine bkd ?_ | refine bka ?_ _); exact BK194.out⟩
    have n2_ : As0 ((((w11.setCell ⟨gb197, 0, none⟩ (.int .i64 (wrap64 (a1_0 + 1)))).setCell ⟨gb197, 1, none⟩ (.int .i64 (wrap64 (a1_1 - a2)))).setCell ⟨gb197, 2, none⟩ (.int .i64 (wrap64 (a1_2 - (wrap64 (a2 * ((rd_T46 l0_0 a1_0).f1))))))).heap[gb195]? = some (.cells #[.int .i64 0, .int .i64 0, .int .i64 0] 63 (0, 0))) := ⟨by (with_reducible repeat first | refine bkN ?_ _ | refine bkd ?_ | refine bka ?_ _); refine blk_far ?_ NB195_197.out _; (with_reducible repeat first | refine bkN ?_ _ | refine bkd ?_ | refine bka ?_ _); refine blk_far ?_ NB195_197.out _; (with_reducible repeat first | refine bkN ?_ _ | refine bkd ?_ | refine bka ?_ _); refine blk_far ?_ NB195_197.out _; (with_reducible repeat first | refine bkN ?_ _ | refine bkd ?_ | refine bka ?_ _); exact BK195.out⟩
    have n3_ : As0 ((((w11.setCell ⟨gb197, 0, none⟩ (.int .i64 (wrap64 (a1_0 + 1)))).setCell ⟨gb197, 1, none⟩ (.int .i64 (wrap64 (a1_1 - a2)))).setCell ⟨gb197, 2, none⟩ (.int .i64 (wrap64 (a1_2 - (wrap64 (a2 * ((rd_T46 l0_0 a1_0).f1))))))).heap[gb197]? = some (.cells #[.int .i64 (wrap64 (a1_0 + 1)), .int .i64 (wrap64 (a1_1 - a2)), .int .i64 (wrap64 (a1_2 - (wrap64 (a2 * ((rd_T46 l0_0 a1_0).f1)))))] 63 (0, 0))) := ⟨by (with_reducible repeat first | refine bkN ?_ _ | refine bkd ?_ | refine bka ?_ _); refine blk_put (cs := #[.int .i64 (wrap64 (a1_0 + 1)), .int .i64 (wrap64 (a1_1 - a2)), .int .i64 0]) ?_ 2 _ rfl; (with_reducible repeat first | refine bkN ?_ _ | refine bkd ?_ | refine bka ?_ _); refine blk_put (cs := #[.int .i64 (wrap64 (a1_0 + 1)), .int .i64 0, .int .i64 0]) ?_ 1 _ rfl; (with_reducible repeat first | refine bkN ?_ _ | refine bkd ?_ | refine bka ?_ _); refine blk_put (cs := #[.int .i64 0, .int .i64 0, .int .i64 0]) ?_ 0 _ rfl; (with_reducible repeat first | refine bkN ?_ _ | refine bkd ?_ | refine bka ?_ _); exact BK197.out⟩
    have n4_ : As0 (Below w.heap.size w (((w11.setCell ⟨gb197, 0, none⟩ (.int .i64 (wrap64 (a1_0 + 1)))).setCell ⟨gb197, 1, none⟩ (.int .i64 (wrap64 (a1_1 - a2)))).setCell ⟨gb197, 2, none⟩ (.int .i64 (wrap64 (a1_2 - (wrap64 (a2 * ((rd_T46 l0_0 a1_0).f1)))))))) := ⟨by repeat (with_reducible first | exact HB.out | apply bal | apply pbN | apply bdw | refine bst ?_ GE193.out | refine bst ?_ GE194.out | refine bst ?_ GE195.out | refine bst ?_ GE197.out)⟩
    (try clear BK193)
    (try clear BK194)
    (try clear BK195)
    (try clear BK197)
    (try clear HB)
    generalize (((w11.setCell ⟨gb197, 0, none⟩ (.int .i64 (wrap64 (a1_0 + 1)))).setCell ⟨gb197, 1, none⟩ (.int .i64 (wrap64 (a1_1 - a2)))).setCell ⟨gb197, 2, none⟩ (.int .i64 (wrap64 (a1_2 - (wrap64 (a2 * ((rd_T46 l0_0 a1_0).f1))))))) = w15 at n0_ n1_ n2_ n3_ n4_ ⊢
    have BK193 := n0_
    have BK194 := n1_
    have BK195 := n2_
    have BK197 := n3_
    have HB := n4_
    clear n0_ n1_ n2_ n3_ n4_
    have n0_ := As0.mk (bkd BK193.out)
    have n1_ := As0.mk (bkd BK194.out)
    have n2_ := As0.mk (bkd BK195.out)
    have n3_ := As0.mk (bkd BK197.out)
    have n4_ := As0.mk (bdw HB.out)
    clear BK193
    clear BK194
    clear BK195
    clear BK197
    clear HB
    have BK193 := n0_
    have BK194 := n1_
    have BK195 := n2_
    have BK197 := n3_
    have HB := n4_
    clear n0_ n1_ n2_ n3_ n4_
    refine start_ (n := 11) (S := fun w' => w'.cell? ⟨gb197, 0, none⟩ = some (.int .i64 (wrap64 (a1_0 + 1))) ∧ w'.cell? ⟨gb197, 1, none⟩ = some (.int .i64 (wrap64 (a1_1 - a2))) ∧ w'.cell? ⟨gb197, 2, none⟩ = some (.int .i64 (wrap64 (a1_2 - (wrap64 (a2 * ((rd_T46 l0_0 a1_0).f1))))))) (ds := []) #[false, false, false, false, false, false, false, false, false, false, false] (by kernel_rfl) rfl rfl ⟨(bkc BK197.out 0).trans rfl, (bkc BK197.out 1).trans rfl, (bkc BK197.out 2).trans rfl⟩ (fun hHeld => ?_); refine with_tabW impl_mixes_after.tab2 impl_mixes_after.bits2 (fun HT_ HW_ => ?_)
    generalize w15.drew = w16 at BK193 BK194 BK195 BK197 HB hHeld ⊢
    refine pure_ (i := 1) (N := some 30) (v := ?_) (a' := ?_) #[false, true, false, false, false, false, false, false, false, false, false] rfl rfl (any_of HT_.out (by kernel_rfl)) (fun _ _ _ h => h) (Or.inl ⟨by rfl, ?_⟩) ?_ ?_
    rotate_left
    ·intro w'
     go_simp
     with_reducible rfl
    rotate_left
    ·simp only [Act.put, sla, slz, sls, i64_w, i32_w]
     rfl
    refine take_ (i := 0) (N := some 29) (v := ?_) (a' := ?_) #[true, true, false, false, false, false, false, false, false, false, false] rfl rfl (take_ofW HT_.out HW_.out (by kernel_rfl)) (fun _ _ _ h => h) (Or.inl ⟨by rfl, ?_⟩) hHeld ?_ ?_
    rotate_left
    ·rintro w' ⟨s0, s1, s2⟩
     go_simp
     with_reducible rfl
    rotate_left
    ·simp only [Act.put, sla, slz, sls, i64_w, i32_w]
     rfl
    refine take_ (i := 2) (N := some 31) (v := ?_) (a' := ?_) #[true, true, true, false, false, false, false, false, false, false, false] rfl rfl (take_ofW HT_.out HW_.out (by kernel_rfl)) (fun _ _ _ h => h) (Or.inl ⟨by rfl, ?_⟩) hHeld ?_ ?_
    rotate_left
    ·rintro w' ⟨s0, s1, s2⟩
     go_simp
     with_reducible rfl
    rotate_left
    ·simp only [Act.put, sla, slz, sls, i64_w, i32_w]
     rfl
    refine pure_ (i := 3) (N := some 32) (v := ?_) (a' := ?_) #[true, true, true, true, false, false, false, false, false, false, false] rfl rfl (any_of HT_.out (by kernel_rfl)) (fun _ _ _ h => h) (Or.inl ⟨by rfl, ?_⟩) ?_ ?_
    rotate_left
    ·intro w'
     go_simp
     with_reducible rfl
    rotate_left
    ·simp only [Act.put, sla, slz, sls, i64_w, i32_w]
     rfl
    refine pure_ (i := 4) (N := some 33) (v := ?_) (a' := ?_) #[true, true, true, true, true, false, false, false, false, false, false] rfl rfl (any_of HT_.out (by kernel_rfl)) (fun _ _ _ h => h) (Or.inl ⟨by rfl, ?_⟩) ?_ ?_
    rotate_left
    ·intro w'
     go_simp
     with_reducible rfl
    rotate_left
    ·simp only [Act.put, sla, slz, sls, i64_w, i32_w]
     rfl
    refine pure_ (i := 5) (N := some 34) (v := ?_) (a' := ?_) #[true, true, true, true, true, true, false, false, false, false, false] rfl rfl (any_of HT_.out (by kernel_rfl)) (fun _ _ _ h => h) (Or.inl ⟨by rfl, ?_⟩) ?_ ?_
    rotate_left
    ·intro w'
     go_simp
     with_reducible rfl
    rotate_left
    ·simp only [Act.put, sla, slz, sls, i64_w, i32_w]
     rfl
    refine take_ (i := 6) (N := some 35) (v := ?_) (a' := ?_) #[true, true, true, true, true, true, true, false, false, false, false] rfl rfl (take_ofW HT_.out HW_.out (by kernel_rfl)) (fun _ _ _ h => h) (Or.inl ⟨by rfl, ?_⟩) hHeld ?_ ?_
    rotate_left
    ·rintro w' ⟨s0, s1, s2⟩
     go_simp
     with_reducible rfl
    rotate_left
    ·simp only [Act.put, sla, slz, sls, i64_w, i32_w]
     rfl
    refine pure_ (i := 7) (N := some 36) (v := ?_) (a' := ?_) #[true, true, true, true, true, true, true, true, false, false, false] rfl rfl (any_of HT_.out (by kernel_rfl)) (fun _ _ _ h => h) (Or.inl ⟨by rfl, ?_⟩) ?_ ?_
    rotate_left
    ·intro w'
     go_simp
     with_reducible rfl
    rotate_left
    ·simp only [Act.put, sla, slz, sls, i64_w, i32_w]
     rfl
    refine pure_ (i := 8) (N := some 37) (v := ?_) (a' := ?_) #[true, true, true, true, true, true, true, true, true, false, false] rfl rfl (any_of HT_.out (by kernel_rfl)) (fun _ _ _ h => h) (Or.inl ⟨by rfl, ?_⟩) ?_ ?_
    rotate_left
    ·intro w'
     go_simp
     with_reducible rfl
    rotate_left
    ·simp only [Act.put, sla, slz, sls, i64_w, i32_w]
     rfl
    refine one_ (i := 9) (N := none) #[true, true, true, true, true, true, true, true, true, true, false] rfl rfl (one_of HT_.out (by kernel_rfl)) (by decide) (fun K hK => ?_)
    have hs17 : w16.cell? ⟨gb195, 0, none⟩ = some (.int .i64 0) := (bkc BK195.out 0).trans rfl
    have hfs17 := bkf BK195.out 0
    have hns17_0 := NB193_195.out
    have hns17_1 := NB194_195.out
    have hns17_3 := NB197_195.out
    have hms17_0 := NB195_193.out
    have hms17_1 := NB195_194.out
    have hms17_3 := NB195_197.out
    have hs18 : w16.cell? ⟨gb195, 1, none⟩ = some (.int .i64 0) := (bkc BK195.out 1).trans rfl
    have hfs18 := bkf BK195.out 1
    have hns18_0 := NB193_195.out
    have hns18_1 := NB194_195.out
    have hns18_3 := NB197_195.out
    have hms18_0 := NB195_193.out
    have hms18_1 := NB195_194.out
    have hms18_3 := NB195_197.out
    have hs19 : w16.cell? ⟨gb195, 2, none⟩ = some (.int .i64 0) := (bkc BK195.out 2).trans rfl
    have hfs19 := bkf BK195.out 2
    have hns19_0 := NB193_195.out
    have hns19_1 := NB194_195.out
    have hns19_3 := NB197_195.out
    have hms19_0 := NB195_193.out
    have hms19_1 := NB195_194.out
    have hms19_3 := NB195_197.out
    refine skip_ (w1 := ?_) (by rfl) rfl ?_ ?_
    rotate_left
    ·go_simp
     rfl
    refine hK.out _ _ ⟨((cell_far (p := ⟨gb195, _, none⟩) NB197_195.out _).trans (((cell_far (p := ⟨gb195, _, none⟩) NB197_195.out _).trans (((cell_far (p := ⟨gb195, _, none⟩) NB197_195.out _).trans (hHeld.1)))))), ((cell_far (p := ⟨gb195, _, none⟩) NB197_195.out _).trans (((cell_far (p := ⟨gb195, _, none⟩) NB197_195.out _).trans (((cell_far (p := ⟨gb195, _, none⟩) NB197_195.out _).trans (hHeld.2.1)))))), ((cell_far (p := ⟨gb195, _, none⟩) NB197_195.out _).trans (((cell_far (p := ⟨gb195, _, none⟩) NB197_195.out _).trans (((cell_far (p := ⟨gb195, _, none⟩) NB197_195.out _).trans (hHeld.2.2))))))⟩ (fun hHeld => ?_)
    clear hK K
    refine pure_ (i := 10) (N := some 7) (v := ?_) (a' := ?_) #[true, true, true, true, true, true, true, true, true, true, true] rfl rfl (any_of HT_.out (by kernel_rfl)) (fun _ _ _ h => h) (Or.inl ⟨by rfl, ?_⟩) ?_ ?_
    rotate_left
    ·intro w'
     go_simp
     with_reducible rfl
    rotate_left
    ·simp only [Act.put, sla, slz, sls, i64_w, i32_w]
     rfl
    refine done_ (done_of HT_.out (by kernel_rfl)) ?_
    try go_wp2
    refine bodyPost_ret (results_ct rfl _ _ gb195 63 #[.int .i64 (wrap64 (a1_0 + 1)), .int .i64 (wrap64 (a1_1 - a2)), .int .i64 (wrap64 (a1_2 - (wrap64 (a2 * ((rd_T46 l0_0 a1_0).f1)))))] (0, 0) _ rfl (by (with_reducible repeat first | refine bkN ?_ _ | refine bkd ?_ | refine bka ?_ _); refine blk_put (cs := #[.int .i64 (wrap64 (a1_0 + 1)), .int .i64 (wrap64 (a1_1 - a2)), .int .i64 0]) ?_ 2 _ rfl; (with_reducible repeat first | refine bkN ?_ _ | refine bkd ?_ | refine bka ?_ _); refine blk_put (cs := #[.int .i64 (wrap64 (a1_0 + 1)), .int .i64 0, .int .i64 0]) ?_ 1 _ rfl; (with_reducible repeat first | refine bkN ?_ _ | refine bkd ?_ | refine bka ?_ _); refine blk_put (cs := #[.int .i64 0, .int .i64 0, .int .i64 0]) ?_ 0 _ rfl; (with_reducible repeat first | refine bkN ?_ _ | refine bkd ?_ | refine bka ?_ _); exact BK195.out) Try.underlying63 rfl (by kernel_rfl)) rfl ?_
    exact ⟨by first | rfl | (simp [eWn, eWs] <;> rfl) | (simp [*, eWn, eWs] <;> rfl), by repeat (with_reducible first | exact HB.out | apply bal | apply pbN | apply bdw | refine bst ?_ GE193.out | refine bst ?_ GE194.out | refine bst ?_ GE195.out | refine bst ?_ GE197.out)⟩
   ·as_aux_lemma =>
    rw [if_neg c6] at H
    have c6b0 : decide (0 ≤ (wrap64 (a1_1 - a2))) = false := decide_eq_false c6
    clear c6
    simp only [Option.some.injEq, Prod.mk.injEq] at H
    obtain ⟨rfl, rfl, rfl, rfl⟩ := H
    go_enter Try.func39, Try.ntmps39
    try go_wp2_with (first | ((with_reducible refine gate_dst (N := 3) rfl ?_); refine box_event ?hg (N := 3) ?hd (cs := #[.slice A0_0 l0_0.length c0_0, .func (.func 29) #[] #[], .int .i64 a0_2, .map none, .map p4]) (t := 55) ?hr ?_; (case hd => rfl); (case hg => rfl); (case hr => first | (go_simp; done) | (go_simp; rfl)); intro gb193 hg w20 hbox hb; have n0_ := As0.mk (bsp (by repeat (with_reducible first | exact HB.out | apply bal | apply pbN | apply bdw)) hb); have n1_ := As0.mk (hbox); have n2_ := As0.mk ((by rw [hg]; exact (bsz (by repeat (with_reducible first | exact HB.out | apply bal | apply pbN | apply bdw))) : w.heap.size ≤ gb193)); have n3_ := As0.mk ((by rw [hg]; exact (bsz (by repeat (with_reducible first | exact HB.out | apply bal | apply pbN | apply bdw))) : w.heap.size ≤ gb193)); clear HB; have HB := n0_; have BK193 := n1_; have GW193 := n2_; have GE193 := n3_; clear n0_ n1_ n2_ n3_; clear hb hbox hg) | ((with_reducible refine gate_dst (N := 4) rfl ?_); refine box_event ?hg (N := 4) ?hd (cs := #[.int .i64 a1_0, .int .i64 a1_1, .int .i64 a1_2]) (t := 63) ?hr ?_; (case hd => rfl); (case hg => rfl); (case hr => first | (go_simp; done) | (go_simp; rfl)); intro gb194 hg w21 hbox hb; have n0_ := As0.mk (bkb (g := gb193) (o := .cells #[.slice A0_0 l0_0.length c0_0, .func (.func 29) #[] #[], .int .i64 a0_2, .map none, .map p4] 55 (0, 0)) (by (with_reducible repeat first | refine bkN ?_ _ | refine bkd ?_ | refine bka ?_ _); exact BK193.out) hb); have n1_ := As0.mk (bsp (by repeat (with_reducible first | exact HB.out | apply bal | apply pbN | apply bdw | refine bst ?_ GE193.out)) hb); have n2_ := As0.mk (hbox); have n3_ := As0.mk ((by rw [hg]; exact (bsz (by repeat (with_reducible first | exact HB.out | apply bal | apply pbN | apply bdw | refine bst ?_ GE193.out))) : w.heap.size ≤ gb194)); have n4_ := As0.mk ((by rw [hg]; exact (bsz (by repeat (with_reducible first | exact HB.out | apply bal | apply pbN | apply bdw | refine bst ?_ GE193.out))) : w.heap.size ≤ gb194)); have n5_ := As0.mk ((by rw [hg]; exact Nat.ne_of_lt (blk_lt (g := gb193) (o := .cells #[.slice A0_0 l0_0.length c0_0, .func (.func 29) #[] #[], .int .i64 a0_2, .map none, .map p4] 55 (0, 0)) (by (with_reducible repeat first | refine bkN ?_ _ | refine bkd ?_ | refine bka ?_ _); exact BK193.out)) : gb193 ≠ gb194)); have n6_ := As0.mk ((by rw [hg]; exact Nat.ne_of_gt (blk_lt (g := gb193) (o := .cells #[.slice A0_0 l0_0.length c0_0, .func (.func 29) #[] #[], .int .i64 a0_2, .map none, .map p4] 55 (0, 0)) (by (with_reducible repeat first | refine bkN ?_ _ | refine bkd ?_ | refine bka ?_ _); exact BK193.out)) : gb194 ≠ gb193)); clear BK193; clear HB; have BK193 := n0_; have HB := n1_; have BK194 := n2_; have GW194 := n3_; have GE194 := n4_; have NB193_194 := n5_; have NB194_193 := n6_; clear n0_ n1_ n2_ n3_ n4_ n5_ n6_; clear hb hbox hg) | ((with_reducible refine gate_dst (N := 6) rfl ?_); refine box_event ?hg (N := 6) ?hd (cs := #[.int .i64 0, .int .i64 0, .int .i64 0]) (t := 63) ?hr ?_; (case hd => rfl); (case hg => rfl); (case hr => first | (go_simp; done) | (go_simp; rfl)); intro gb195 hg w22 hbox hb; have n0_ := As0.mk (bkb (g := gb193) (o := .cells #[.slice A0_0 l0_0.length c0_0, .func (.func 29) #[] #[], .int .i64 a0_2, .map none, .map p4] 55 (0, 0)) (by (with_reducible repeat first | refine bkN ?_ _ | refine bkd ?_ | refine bka ?_ _); exact BK193.out) hb); have n1_ := As0.mk (bkb (g := gb194) (by (with_reducible repeat first | refine bkN ?_ _ | refine bkd ?_ | refine bka ?_ _); exact BK194.out) hb); have n2_ := As0.mk (bsp (by repeat (with_reducible first | exact HB.out | apply bal | apply pbN | apply bdw | refine bst ?_ GE193.out | refine bst ?_ GE194.out)) hb); have n3_ := As0.mk (hbox); have n4_ := As0.mk ((by rw [hg]; exact (bsz (by repeat (with_reducible first | exact HB.out | apply bal | apply pbN | apply bdw | refine bst ?_ GE193.out | refine bst ?_ GE194.out))) : w.heap.size ≤ gb195)); have n5_ := As0.mk ((by rw [hg]; exact (bsz (by repeat (with_reducible first | exact HB.out | apply bal | apply pbN | apply bdw | refine bst ?_ GE193.out | refine bst ?_ GE194.out))) : w.heap.size ≤ gb195)); have n6_ := As0.mk ((by rw [hg]; exact Nat.ne_of_lt (blk_lt (g := gb193) (o := .cells #[.slice A0_0 l0_0.length c0_0, .func (.func 29) #[] #[], .int .i64 a0_2, .map none, .map p4] 55 (0, 0)) (by (with_reducible repeat first | refine bkN ?_ _ | refine bkd ?_ | refine bka ?_ _); exact BK193.out)) : gb193 ≠ gb195)); have n7_ := As0.mk ((by rw [hg]; exact Nat.ne_of_gt (blk_lt (g := gb193) (o := .cells #[.slice A0_0 l0_0.length c0_0, .func (.func 29) #[] #[], .int .i64 a0_2, .map none, .map p4] 55 (0, 0)) (by (with_reducible repeat first | refine bkN ?_ _ | refine bkd ?_ | refine bka ?_ _); exact BK193.out)) : gb195 ≠ gb193)); have n8_ := As0.mk ((by rw [hg]; exact Nat.ne_of_lt (blk_lt (g := gb194) (o := .cells #[.int .i64 a1_0, .int .i64 a1_1, .int .i64 a1_2] 63 (0, 0)) (by (with_reducible repeat first | refine bkN ?_ _ | refine bkd ?_ | refine bka ?_ _); exact BK194.out)) : gb194 ≠ gb195)); have n9_ := As0.mk ((by rw [hg]; exact Nat.ne_of_gt (blk_lt (g := gb194) (o := .cells #[.int .i64 a1_0, .int .i64 a1_1, .int .i64 a1_2] 63 (0, 0)) (by (with_reducible repeat first | refine bkN ?_ _ | refine bkd ?_ | refine bka ?_ _); exact BK194.out)) : gb195 ≠ gb194)); clear BK193; clear BK194; clear HB; have BK193 := n0_; have BK194 := n1_; have HB := n2_; have BK195 := n3_; have GW195 := n4_; have GE195 := n5_; have NB193_195 := n6_; have NB195_193 := n7_; have NB194_195 := n8_; have NB195_194 := n9_; clear n0_ n1_ n2_ n3_ n4_ n5_ n6_ n7_ n8_ n9_; clear hb hbox hg))
    have n0_ := As0.mk (bkd BK193.out)
    have n1_ := As0.mk (bkd BK194.out)
    have n2_ := As0.mk (bkd BK195.out)
    have n3_ := As0.mk (bdw HB.out)
    clear BK193
    clear BK194
    clear BK195
    clear HB
    have BK193 := n0_
    have BK194 := n1_
    have BK195 := n2_
    have HB := n3_
    clear n0_ n1_ n2_ n3_
    have p196 : 0 ≤ (a1_0 : Int) := of_decide_eq_true (by assumption)
    have q196 : a1_0 < (l0_0.length : Int) := of_decide_eq_true (by assumption)
    obtain ⟨ad196, e196, hx196_0, hx196_1, hx196_2, hx196_3⟩ := at_T46 HR0_0.out a1_0 p196 q196
    have hw196_3 := hx196_3
    have hw196_2 := hx196_2
    have hw196_1 := hx196_1
    have hw196_0 := hx196_0
    cases e196
    replace hx196_0 := (HB.out.cell (blt w _ hx196_0)).trans hx196_0
    replace hx196_1 := (HB.out.cell (blt w _ hx196_1)).trans hx196_1
    replace hx196_2 := (HB.out.cell (blt w _ hx196_2)).trans hx196_2
    replace hx196_3 := (HB.out.cell (blt w _ hx196_3)).trans hx196_3
    replace p196 := eq_true p196
    replace q196 := eq_true q196
    refine start_ (n := 22) (S := fun w' => w'.cell? ⟨gb194, 0, none⟩ = some (.int .i64 a1_0) ∧ w'.cell? ⟨gb194, 1, none⟩ = some (.int .i64 a1_1) ∧ w'.cell? ⟨gb194, 2, none⟩ = some (.int .i64 a1_2) ∧ w'.cell? ⟨gb193, 0, none⟩ = some (.slice (some ad196) l0_0.length c0_0) ∧ w'.cell? ⟨gb193, 1, none⟩ = some (.func (.func 29) #[] #[]) ∧ w'.cell? ⟨gb193, 2, none⟩ = some (.int .i64 a0_2) ∧ w'.cell? ⟨gb193, 3, none⟩ = some (.map none) ∧ w'.cell? ⟨gb193, 4, none⟩ = some (.map p4) ∧ w'.cell? (ad196.add ((a1_0).toNat * 4)) = some (.string ((rd_T46 l0_0 a1_0).f0)) ∧ w'.cell? ⟨(ad196.add ((a1_0).toNat * 4)).block, (ad196.add ((a1_0).toNat * 4)).off + 1, none⟩ = some (.int .i64 ((rd_T46 l0_0 a1_0).f1)) ∧ w'.cell? ⟨(ad196.add ((a1_0).toNat * 4)).block, (ad196.add ((a1_0).toNat * 4)).off + 2, none⟩ = some (.int .i64 ((rd_T46 l0_0 a1_0).f2)) ∧ w'.cell? ⟨(ad196.add ((a1_0).toNat * 4)).block, (ad196.add ((a1_0).toNat * 4)).off + 3, none⟩ = some (.int .i64 ((rd_T46 l0_0 a1_0).f3))) (ds := []) #[false, false, false, false, false, false, false, false, false, false, false, false, false, false, false, false, false, false, false, false, false, false] (by kernel_rfl) rfl rfl ⟨(bkc BK194.out 0).trans rfl, (bkc BK194.out 1).trans rfl, (bkc BK194.out 2).trans rfl, (bkc BK193.out 0).trans rfl, (bkc BK193.out 1).trans rfl, (bkc BK193.out 2).trans rfl, (bkc BK193.out 3).trans rfl, (bkc BK193.out 4).trans rfl, ((HB.out.cell (blt w _ hw196_0)).trans hw196_0), ((HB.out.cell (blt w _ hw196_1)).trans hw196_1), ((HB.out.cell (blt w _ hw196_2)).trans hw196_2), ((HB.out.cell (blt w _ hw196_3)).trans hw196_3)⟩ (fun hHeld => ?_); refine with_tabW impl_mixes_after.tab1 impl_mixes_after.bits1 (fun HT_ HW_ => ?_)
    generalize w22.drew = w23 at BK193 BK194 BK195 HB hx196_0 hx196_1 hx196_2 hx196_3 hHeld ⊢
    refine pure_ (i := 0) (N := some 9) (v := ?_) (a' := ?_) #[true, false, false, false, false, false, false, false, false, false, false, false, false, false, false, false, false, false, false, false, false, false] rfl rfl (any_of HT_.out (by kernel_rfl)) (fun _ _ _ h => h) (Or.inl ⟨by rfl, ?_⟩) ?_ ?_
    rotate_left
    ·intro w'
     go_simp
     with_reducible rfl
    rotate_left
    ·simp only [Act.put, sla, slz, sls, i64_w, i32_w]
     rfl
    refine pure_ (i := 3) (N := some 12) (v := ?_) (a' := ?_) #[true, false, false, true, false, false, false, false, false, false, false, false, false, false, false, false, false, false, false, false, false, false] rfl rfl (any_of HT_.out (by kernel_rfl)) (fun _ _ _ h => h) (Or.inl ⟨by rfl, ?_⟩) ?_ ?_
    rotate_left
    ·intro w'
     go_simp
     with_reducible rfl
    rotate_left
    ·simp only [Act.put, sla, slz, sls, i64_w, i32_w]
     rfl
    refine pure_ (i := 5) (N := some 14) (v := ?_) (a' := ?_) #[true, false, false, true, false, true, false, false, false, false, false, false, false, false, false, false, false, false, false, false, false, false] rfl rfl (any_of HT_.out (by kernel_rfl)) (fun _ _ _ h => h) (Or.inl ⟨by rfl, ?_⟩) ?_ ?_
    rotate_left
    ·intro w'
     go_simp
     with_reducible rfl
    rotate_left
    ·simp only [Act.put, sla, slz, sls, i64_w, i32_w]
     rfl
    refine pure_ (i := 7) (N := some 16) (v := ?_) (a' := ?_) #[true, false, false, true, false, true, false, true, false, false, false, false, false, false, false, false, false, false, false, false, false, false] rfl rfl (any_of HT_.out (by kernel_rfl)) (fun _ _ _ h => h) (Or.inl ⟨by rfl, ?_⟩) ?_ ?_
    rotate_left
    ·intro w'
     go_simp
     with_reducible rfl
    rotate_left
    ·simp only [Act.put, sla, slz, sls, i64_w, i32_w]
     rfl
    refine pure_ (i := 9) (N := some 18) (v := ?_) (a' := ?_) #[true, false, false, true, false, true, false, true, false, true, false, false, false, false, false, false, false, false, false, false, false, false] rfl rfl (any_of HT_.out (by kernel_rfl)) (fun _ _ _ h => h) (Or.inl ⟨by rfl, ?_⟩) ?_ ?_
    rotate_left
    ·intro w'
     go_simp
     with_reducible rfl
    rotate_left
    ·simp only [Act.put, sla, slz, sls, i64_w, i32_w]
     rfl
    refine pure_ (i := 10) (N := some 19) (v := ?_) (a' := ?_) #[true, false, false, true, false, true, false, true, false, true, true, false, false, false, false, false, false, false, false, false, false, false] rfl rfl (any_of HT_.out (by kernel_rfl)) (fun _ _ _ h => h) (Or.inl ⟨by rfl, ?_⟩) ?_ ?_
    rotate_left
    ·intro w'
     go_simp
     with_reducible rfl
    rotate_left
    ·simp only [Act.put, sla, slz, sls, i64_w, i32_w]
     rfl
    refine pure_ (i := 12) (N := some 21) (v := ?_) (a' := ?_) #[true, false, false, true, false, true, false, true, false, true, true, false, true, false, false, false, false, false, false, false, false, false] rfl rfl (any_of HT_.out (by kernel_rfl)) (fun _ _ _ h => h) (Or.inl ⟨by rfl, ?_⟩) ?_ ?_
    rotate_left
    ·intro w'
     go_simp
     with_reducible rfl
    rotate_left
    ·simp only [Act.put, sla, slz, sls, i64_w, i32_w]
     rfl
    refine take_ (i := 1) (N := some 10) (v := ?_) (a' := ?_) #[true, true, false, true, false, true, false, true, false, true, true, false, true, false, false, false, false, false, false, false, false, false] rfl rfl (take_ofW HT_.out HW_.out (by kernel_rfl)) (fun _ _ _ h => h) (Or.inl ⟨by rfl, ?_⟩) hHeld ?_ ?_
    rotate_left
    ·rintro w' ⟨s0, s1, s2, s3, s4, s5, s6, s7, s8, s9, s10, s11⟩
     go_simp
     with_reducible rfl
    rotate_left
    ·simp only [Act.put, sla, slz, sls, i64_w, i32_w]
     rfl
    refine pure_ (i := 2) (N := some 11) (v := ?_) (a' := ?_) #[true, true, true, true, false, true, false, true, false, true, true, false, true, false, false, false, false, false, false, false, false, false] rfl rfl (any_of HT_.out (by kernel_rfl)) (fun _ _ _ h => h) (Or.inl ⟨by rfl, ?_⟩) ?_ ?_
    rotate_left
    ·intro w'
     go_simp
     with_reducible rfl
    rotate_left
    ·simp only [Act.put, sla, slz, sls, i64_w, i32_w]
     rfl
    refine take_ (i := 4) (N := some 13) (v := ?_) (a' := ?_) #[true, true, true, true, true, true, false, true, false, true, true, false, true, false, false, false, false, false, false, false, false, false] rfl rfl (take_ofW HT_.out HW_.out (by kernel_rfl)) (fun _ _ _ h => h) (Or.inl ⟨by rfl, ?_⟩) hHeld ?_ ?_
    rotate_left
    ·rintro w' ⟨s0, s1, s2, s3, s4, s5, s6, s7, s8, s9, s10, s11⟩
     go_simp
     with_reducible rfl
    rotate_left
    ·simp only [Act.put, sla, slz, sls, i64_w, i32_w]
     rfl
    refine pure_ (i := 6) (N := some 15) (v := ?_) (a' := ?_) #[true, true, true, true, true, true, true, true, false, true, true, false, true, false, false, false, false, false, false, false, false, false] rfl rfl (any_of HT_.out (by kernel_rfl)) (fun _ _ _ h => h) (Or.inl ⟨by rfl, ?_⟩) ?_ ?_
    rotate_left
    ·intro w'
     go_simp
     with_reducible rfl
    rotate_left
    ·simp only [Act.put, sla, slz, sls, i64_w, i32_w]
     rfl
    refine take_ (i := 8) (N := some 17) (v := ?_) (a' := ?_) #[true, true, true, true, true, true, true, true, true, true, true, false, true, false, false, false, false, false, false, false, false, false] rfl rfl (take_ofW HT_.out HW_.out (by kernel_rfl)) (fun _ _ _ h => h) (Or.inl ⟨by rfl, ?_⟩) hHeld ?_ ?_
    rotate_left
    ·rintro w' ⟨s0, s1, s2, s3, s4, s5, s6, s7, s8, s9, s10, s11⟩
     go_simp
     with_reducible rfl
    rotate_left
    ·simp only [Act.put, sla, slz, sls, i64_w, i32_w]
     rfl
    refine take_ (i := 11) (N := some 20) (v := ?_) (a' := ?_) #[true, true, true, true, true, true, true, true, true, true, true, true, true, false, false, false, false, false, false, false, false, false] rfl rfl (take_ofW HT_.out HW_.out (by kernel_rfl)) (fun _ _ _ h => h) (Or.inl ⟨by rfl, ?_⟩) hHeld ?_ ?_
    rotate_left
    ·rintro w' ⟨s0, s1, s2, s3, s4, s5, s6, s7, s8, s9, s10, s11⟩
     go_simp
     with_reducible rfl
    rotate_left
    ·simp only [Act.put, sla, slz, sls, i64_w, i32_w]
     rfl
    refine take_ (i := 13) (N := some 22) (v := ?_) (a' := ?_) #[true, true, true, true, true, true, true, true, true, true, true, true, true, true, false, false, false, false, false, false, false, false] rfl rfl (take_ofW HT_.out HW_.out (by kernel_rfl)) (fun _ _ _ h => h) (Or.inl ⟨by rfl, ?_⟩) hHeld ?_ ?_
    rotate_left
    ·rintro w' ⟨s0, s1, s2, s3, s4, s5, s6, s7, s8, s9, s10, s11⟩
     go_simp
     with_reducible rfl
    rotate_left
    ·simp only [Act.put, sla, slz, sls, i64_w, i32_w]
     rfl
    refine pure_ (i := 14) (N := some 23) (v := ?_) (a' := ?_) #[true, true, true, true, true, true, true, true, true, true, true, true, true, true, true, false, false, false, false, false, false, false] rfl rfl (any_of HT_.out (by kernel_rfl)) (fun _ _ _ h => h) (Or.inl ⟨by rfl, ?_⟩) ?_ ?_
    rotate_left
    ·intro w'
     go_simp
     with_reducible rfl
    rotate_left
    ·simp only [Act.put, sla, slz, sls, i64_w, i32_w]
     rfl
    refine pure_ (i := 15) (N := some 24) (v := ?_) (a' := ?_) #[true, true, true, true, true, true, true, true, true, true, true, true, true, true, true, true, false, false, false, false, false, false] rfl rfl (any_of HT_.out (by kernel_rfl)) (fun _ _ _ h => h) (Or.inl ⟨by rfl, ?_⟩) ?_ ?_
    rotate_left
    ·intro w'
     go_simp
     with_reducible rfl
    rotate_left
    ·simp only [Act.put, sla, slz, sls, i64_w, i32_w]
     rfl
    refine take_ (i := 16) (N := some 25) (v := ?_) (a' := ?_) #[true, true, true, true, true, true, true, true, true, true, true, true, true, true, true, true, true, false, false, false, false, false] rfl rfl (take_ofW HT_.out HW_.out (by kernel_rfl)) (fun _ _ _ h => h) (Or.inl ⟨by rfl, ?_⟩) hHeld ?_ ?_
    rotate_left
    ·rintro w' ⟨s0, s1, s2, s3, s4, s5, s6, s7, s8, s9, s10, s11⟩
     go_simp
     with_reducible rfl
    rotate_left
    ·simp only [Act.put, sla, slz, sls, i64_w, i32_w]
     rfl
    refine pure_ (i := 17) (N := some 26) (v := ?_) (a' := ?_) #[true, true, true, true, true, true, true, true, true, true, true, true, true, true, true, true, true, true, false, false, false, false] rfl rfl (any_of HT_.out (by kernel_rfl)) (fun _ _ _ h => h) (Or.inl ⟨by rfl, ?_⟩) ?_ ?_
    rotate_left
    ·intro w'
     go_simp
     with_reducible rfl
    rotate_left
    ·simp only [Act.put, sla, slz, sls, i64_w, i32_w]
     rfl
    refine pure_ (i := 18) (N := some 27) (v := ?_) (a' := ?_) #[true, true, true, true, true, true, true, true, true, true, true, true, true, true, true, true, true, true, true, false, false, false] rfl rfl (any_of HT_.out (by kernel_rfl)) (fun _ _ _ h => h) (Or.inl ⟨by rfl, ?_⟩) ?_ ?_
    rotate_left
    ·intro w'
     go_simp
     with_reducible rfl
    rotate_left
    ·simp only [Act.put, sla, slz, sls, i64_w, i32_w]
     rfl
    refine pure_ (i := 19) (N := some 28) (v := ?_) (a' := ?_) #[true, true, true, true, true, true, true, true, true, true, true, true, true, true, true, true, true, true, true, true, false, false] rfl rfl (any_of HT_.out (by kernel_rfl)) (fun _ _ _ h => h) (Or.inl ⟨by rfl, ?_⟩) ?_ ?_
    rotate_left
    ·intro w'
     go_simp
     with_reducible rfl
    rotate_left
    ·simp only [Act.put, sla, slz, sls, i64_w, i32_w]
     rfl
    refine one_ (i := 20) (N := some 8) #[true, true, true, true, true, true, true, true, true, true, true, true, true, true, true, true, true, true, true, true, true, false] rfl rfl (one_of HT_.out (by kernel_rfl)) (by decide) (fun K hK => ?_)
    refine box_step ?hg (N := 8) ?hd (cs := #[.int .i64 0, .int .i64 0, .int .i64 0]) (t := 63) ?hr ?_; (case hd => rfl); (case hg => rfl); (case hr => first | (go_simp; done) | (go_simp; rfl))
    intro gb197 hg w24 hbox hb
    have n0_ := As0.mk (bkb (g := gb193) (o := .cells #[.slice (some ad196) l0_0.length c0_0, .func (.func 29) #[] #[], .int .i64 a0_2, .map none, .map p4] 55 (0, 0)) (by (with_reducible repeat first | refine bkN ?_ _ | refine bkd ?_ | refine bka ?_ _); exact BK193.out) hb)
    have n1_ := As0.mk (bkb (g := gb194) (by (with_reducible repeat first | refine bkN ?_ _ | refine bkd ?_ | refine bka ?_ _); exact BK194.out) hb)
    have n2_ := As0.mk (bkb (g := gb195) (by (with_reducible repeat first | refine bkN ?_ _ | refine bkd ?_ | refine bka ?_ _); exact BK195.out) hb)
    have n3_ := As0.mk (bsp (by repeat (with_reducible first | exact HB.out | apply bal | apply pbN | apply bdw | refine bst ?_ GE193.out | refine bst ?_ GE194.out | refine bst ?_ GE195.out)) hb)
    have n4_ := As0.mk (hbox)
    have n5_ := As0.mk ((by rw [hg]; exact (bsz (by repeat (with_reducible first | exact HB.out | apply bal | apply pbN | apply bdw | refine bst ?_ GE193.out | refine bst ?_ GE194.out | refine bst ?_ GE195.out))) : w.heap.size ≤ gb197))
    have n6_ := As0.mk ((by rw [hg]; exact (bsz (by repeat (with_reducible first | exact HB.out | apply bal | apply pbN | apply bdw | refine bst ?_ GE193.out | refine bst ?_ GE194.out | refine bst ?_ GE195.out))) : w.heap.size ≤ gb197))
    have n7_ := As0.mk ((by rw [hg]; exact Nat.ne_of_lt (blk_lt (g := gb193) (o := .cells #[.slice (some ad196) l0_0.length c0_0, .func (.func 29) #[] #[], .int .i64 a0_2, .map none, .map p4] 55 (0, 0)) (by (with_reducible repeat first | refine bkN ?_ _ | refine bkd ?_ | refine bka ?_ _); exact BK193.out)) : gb193 ≠ gb197))
    have n8_ := As0.mk ((by rw [hg]; exact Nat.ne_of_gt (blk_lt (g := gb193) (o := .cells #[.slice (some ad196) l0_0.length c0_0, .func (.func 29) #[] #[], .int .i64 a0_2, .map none, .map p4] 55 (0, 0)) (by (with_reducible repeat first | refine bkN ?_ _ | refine bkd ?_ | refine bka ?_ _); exact BK193.out)) : gb197 ≠ gb193))
    have n9_ := As0.mk ((by rw [hg]; exact Nat.ne_of_lt (blk_lt (g := gb194) (o := .cells #[.int .i64 a1_0, .int .i64 a1_1, .int .i64 a1_2] 63 (0, 0)) (by (with_reducible repeat first | refine bkN ?_ _ | refine bkd ?_ | refine bka ?_ _); exact BK194.out)) : gb194 ≠ gb197))
    have n10_ := As0.mk ((by rw [hg]; exact Nat.ne_of_gt (blk_lt (g := gb194) (o := .cells #[.int .i64 a1_0, .int .i64 a1_1, .int .i64 a1_2] 63 (0, 0)) (by (with_reducible repeat first | refine bkN ?_ _ | refine bkd ?_ | refine bka ?_ _); exact BK194.out)) : gb197 ≠ gb194))
    have n11_ := As0.mk ((by rw [hg]; exact Nat.ne_of_lt (blk_lt (g := gb195) (o := .cells #[.int .i64 0, .int .i64 0, .int .i64 0] 63 (0, 0)) (by (with_reducible repeat first | refine bkN ?_ _ | refine bkd ?_ | refine bka ?_ _); exact BK195.out)) : gb195 ≠ gb197))
    have n12_ := As0.mk ((by rw [hg]; exact Nat.ne_of_gt (blk_lt (g := gb195) (o := .cells #[.int .i64 0, .int .i64 0, .int .i64 0] 63 (0, 0)) (by (with_reducible repeat first | refine bkN ?_ _ | refine bkd ?_ | refine bka ?_ _); exact BK195.out)) : gb197 ≠ gb195))
    clear BK193
    clear BK194
    clear BK195
    clear HB
    have BK193 := n0_
    have BK194 := n1_
    have BK195 := n2_
    have HB := n3_
    have BK197 := n4_
    have GW197 := n5_
    have GE197 := n6_
    have NB193_197 := n7_
    have NB197_193 := n8_
    have NB194_197 := n9_
    have NB197_194 := n10_
    have NB195_197 := n11_
    have NB197_195 := n12_
    clear n0_ n1_ n2_ n3_ n4_ n5_ n6_ n7_ n8_ n9_ n10_ n11_ n12_
    clear hb hbox hg
    refine hK.out _ _ ⟨(bkc BK194.out 0).trans rfl, (bkc BK194.out 1).trans rfl, (bkc BK194.out 2).trans rfl, (bkc BK193.out 0).trans rfl, (bkc BK193.out 1).trans rfl, (bkc BK193.out 2).trans rfl, (bkc BK193.out 3).trans rfl, (bkc BK193.out 4).trans rfl, ((HB.out.cell (blt w _ hw196_0)).trans hw196_0), ((HB.out.cell (blt w _ hw196_1)).trans hw196_1), ((HB.out.cell (blt w _ hw196_2)).trans hw196_2), ((HB.out.cell (blt w _ hw196_3)).trans hw196_3)⟩ (fun hHeld => ?_)
    clear hK K
    refine norm_ (a' := ?_) ?_ ?_
    rotate_left
    ·show Act.put _ (some 8) _ = _
     simp only [Act.put, sla, slz, sls, i64_w, i32_w]
     rfl
    refine one_ (i := 21) (N := none) #[true, true, true, true, true, true, true, true, true, true, true, true, true, true, true, true, true, true, true, true, true, true] rfl rfl (one_of HT_.out (by kernel_rfl)) (by decide) (fun K hK => ?_)
    have hs25 : w24.cell? ⟨gb197, 0, none⟩ = some (.int .i64 0) := (bkc BK197.out 0).trans rfl
    have hfs25 := bkf BK197.out 0
    have hns25_0 := NB193_197.out
    have hns25_1 := NB194_197.out
    have hns25_2 := NB195_197.out
    have hms25_0 := NB197_193.out
    have hms25_1 := NB197_194.out
    have hms25_2 := NB197_195.out
    have hs26 : w24.cell? ⟨gb197, 1, none⟩ = some (.int .i64 0) := (bkc BK197.out 1).trans rfl
    have hfs26 := bkf BK197.out 1
    have hns26_0 := NB193_197.out
    have hns26_1 := NB194_197.out
    have hns26_2 := NB195_197.out
    have hms26_0 := NB197_193.out
    have hms26_1 := NB197_194.out
    have hms26_2 := NB197_195.out
    have hs27 : w24.cell? ⟨gb197, 2, none⟩ = some (.int .i64 0) := (bkc BK197.out 2).trans rfl
    have hfs27 := bkf BK197.out 2
    have hns27_0 := NB193_197.out
    have hns27_1 := NB194_197.out
    have hns27_2 := NB195_197.out
    have hms27_0 := NB197_193.out
    have hms27_1 := NB197_194.out
    have hms27_2 := NB197_195.out
    refine skip_ (w1 := ?_) (by rfl) rfl ?_ ?_
    rotate_left
    ·go_simp
     rfl
    refine hK.out _ _ ⟨((cell_far (p := ⟨gb197, _, none⟩) NB194_197.out _).trans (((cell_far (p := ⟨gb197, _, none⟩) NB194_197.out _).trans (((cell_far (p := ⟨gb197, _, none⟩) NB194_197.out _).trans (hHeld.1)))))), ((cell_far (p := ⟨gb197, _, none⟩) NB194_197.out _).trans (((cell_far (p := ⟨gb197, _, none⟩) NB194_197.out _).trans (((cell_far (p := ⟨gb197, _, none⟩) NB194_197.out _).trans (hHeld.2.1)))))), ((cell_far (p := ⟨gb197, _, none⟩) NB194_197.out _).trans (((cell_far (p := ⟨gb197, _, none⟩) NB194_197.out _).trans (((cell_far (p := ⟨gb197, _, none⟩) NB194_197.out _).trans (hHeld.2.2.1)))))), ((cell_far (p := ⟨gb197, _, none⟩) NB193_197.out _).trans (((cell_far (p := ⟨gb197, _, none⟩) NB193_197.out _).trans (((cell_far (p := ⟨gb197, _, none⟩) NB193_197.out _).trans (hHeld.2.2.2.1)))))), ((cell_far (p := ⟨gb197, _, none⟩) NB193_197.out _).trans (((cell_far (p := ⟨gb197, _, none⟩) NB193_197.out _).trans (((cell_far (p := ⟨gb197, _, none⟩) NB193_197.out _).trans (hHeld.2.2.2.2.1)))))), ((cell_far (p := ⟨gb197, _, none⟩) NB193_197.out _).trans (((cell_far (p := ⟨gb197, _, none⟩) NB193_197.out _).trans (((cell_far (p := ⟨gb197, _, none⟩) NB193_197.out _).trans (hHeld.2.2.2.2.2.1)))))), ((cell_far (p := ⟨gb197, _, none⟩) NB193_197.out _).trans (((cell_far (p := ⟨gb197, _, none⟩) NB193_197.out _).trans (((cell_far (p := ⟨gb197, _, none⟩) NB193_197.out _).trans (hHeld.2.2.2.2.2.2.1)))))), ((cell_far (p := ⟨gb197, _, none⟩) NB193_197.out _).trans (((cell_far (p := ⟨gb197, _, none⟩) NB193_197.out _).trans (((cell_far (p := ⟨gb197, _, none⟩) NB193_197.out _).trans (hHeld.2.2.2.2.2.2.2.1)))))), ((cell_far (p := ⟨gb197, _, none⟩) (by first | exact Nat.ne_of_lt (Nat.lt_of_lt_of_le (by have := World.block_lt_of_cell? _ _ hw196_0; first | rwa [add_block] at this | exact this) GW197.out) | (rw [add_block]; exact Nat.ne_of_lt (Nat.lt_of_lt_of_le (by have := World.block_lt_of_cell? _ _ hw196_0; first | rwa [add_block] at this | exact this) GW197.out)) | (show (Addr.add _ _).block ≠ _; rw [add_block]; exact Nat.ne_of_lt (Nat.lt_of_lt_of_le (by have := World.block_lt_of_cell? _ _ hw196_0; first | rwa [add_block] at this | exact this) GW197.out)) | (dsimp only; exact Nat.ne_of_lt (Nat.lt_of_lt_of_le (by have := World.block_lt_of_cell? _ _ hw196_0; first | rwa [add_block] at this | exact this) GW197.out))) _).trans (((cell_far (p := ⟨gb197, _, none⟩) (by first | exact Nat.ne_of_lt (Nat.lt_of_lt_of_le (by have := World.block_lt_of_cell? _ _ hw196_0; first | rwa [add_block] at this | exact this) GW197.out) | (rw [add_block]; exact Nat.ne_of_lt (Nat.lt_of_lt_of_le (by have := World.block_lt_of_cell? _ _ hw196_0; first | rwa [add_block] at this | exact this) GW197.out)) | (show (Addr.add _ _).block ≠ _; rw [add_block]; exact Nat.ne_of_lt (Nat.lt_of_lt_of_le (by have := World.block_lt_of_cell? _ _ hw196_0; first | rwa [add_block] at this | exact this) GW197.out)) | (dsimp only; exact Nat.ne_of_lt (Nat.lt_of_lt_of_le (by have := World.block_lt_of_cell? _ _ hw196_0; first | rwa [add_block] at this | exact this) GW197.out))) _).trans (((cell_far (p := ⟨gb197, _, none⟩) (by first | exact Nat.ne_of_lt (Nat.lt_of_lt_of_le (by have := World.block_lt_of_cell? _ _ hw196_0; first | rwa [add_block] at this | exact this) GW197.out) | (rw [add_block]; exact Nat.ne_of_lt (Nat.lt_of_lt_of_le (by have := World.block_lt_of_cell? _ _ hw196_0; first | rwa [add_block] at this | exact this) GW197.out)) | (show (Addr.add _ _).block ≠ _; rw [add_block]; exact Nat.ne_of_lt (Nat.lt_of_lt_of_le (by have := World.block_lt_of_cell? _ _ hw196_0; first | rwa [add_block] at this | exact this) GW197.out)) | (dsimp only; exact Nat.ne_of_lt (Nat.lt_of_lt_of_le (by have := World.block_lt_of_cell? _ _ hw196_0; first | rwa [add_block] at this | exact this) GW197.out))) _).trans (hHeld.2.2.2.2.2.2.2.2.1)))))), ((cell_far (p := ⟨gb197, _, none⟩) (by first | exact Nat.ne_of_lt (Nat.lt_of_lt_of_le (by have := World.block_lt_of_cell? _ _ hw196_1; first | rwa [add_block] at this | exact this) GW197.out) | (rw [add_block]; exact Nat.ne_of_lt (Nat.lt_of_lt_of_le (by have := World.block_lt_of_cell? _ _ hw196_1; first | rwa [add_block] at this | exact this) GW197.out)) | (show (Addr.add _ _).block ≠ _; rw [add_block]; exact Nat.ne_of_lt (Nat.lt_of_lt_of_le (by have := World.block_lt_of_cell? _ _ hw196_1; first | rwa [add_block] at this | exact this) GW197.out)) | (dsimp only; exact Nat.ne_of_lt (Nat.lt_of_lt_of_le (by have := World.block_lt_of_cell? _ _ hw196_1; first | rwa [add_block] at this | exact this) GW197.out))) _).trans (((cell_far (p := ⟨gb197, _, none⟩) (by first | exact Nat.ne_of_lt (Nat.lt_of_lt_of_le (by have := World.block_lt_of_cell? _ _ hw196_1; first | rwa [add_block] at this | exact this) GW197.out) | (rw [add_block]; exact Nat.ne_of_lt (Nat.lt_of_lt_of_le (by have := World.block_lt_of_cell? _ _ hw196_1; first | rwa [add_block] at this | exact this) GW197.out)) | (show (Addr.add _ _).block ≠ _; rw [add_block]; exact Nat.ne_of_lt (Nat.lt_of_lt_of_le (by have := World.block_lt_of_cell? _ _ hw196_1; first | rwa [add_block] at this | exact this) GW197.out)) | (dsimp only; exact Nat.ne_of_lt (Nat.lt_of_lt_of_le (by have := World.block_lt_of_cell? _ _ hw196_1; first | rwa [add_block] at this | exact this) GW197.out))) _).trans (((cell_far (p := ⟨gb197, _, none⟩) (by first | exact Nat.ne_of_lt (Nat.lt_of_lt_of_le (by have := World.block_lt_of_cell? _ _ hw196_1; first | rwa [add_block] at this | exact this) GW197.out) | (rw [add_block]; exact Nat.ne_of_lt (Nat.lt_of_lt_of_le (by have := World.block_lt_of_cell? _ _ hw196_1; first | rwa [add_block] at this | exact this) GW197.out)) | (show (Addr.add _ _).block ≠ _; rw [add_block]; exact Nat.ne_of_lt (Nat.lt_of_lt_of_le (by have := World.block_lt_of_cell? _ _ hw196_1; first | rwa [add_block] at this | exact this) GW197.out)) | (dsimp only; exact Nat.ne_of_lt (Nat.lt_of_lt_of_le (by have := World.block_lt_of_cell? _ _ hw196_1; first | rwa [add_block] at this | exact this) GW197.out))) _).trans (hHeld.2.2.2.2.2.2.2.2.2.1)))))), ((cell_far (p := ⟨gb197, _, none⟩) (by first | exact Nat.ne_of_lt (Nat.lt_of_lt_of_le (by have := World.block_lt_of_cell? _ _ hw196_2; first | rwa [add_block] at this | exact this) GW197.out) | (rw [add_block]; exact Nat.ne_of_lt (Nat.lt_of_lt_of_le (by have := World.block_lt_of_cell? _ _ hw196_2; first | rwa [add_block] at this | exact this) GW197.out)) | (show (Addr.add _ _).block ≠ _; rw [add_block]; exact Nat.ne_of_lt (Nat.lt_of_lt_of_le (by have := World.block_lt_of_cell? _ _ hw196_2; first | rwa [add_block] at this | exact this) GW197.out)) | (dsimp only; exact Nat.ne_of_lt (Nat.lt_of_lt_of_le (by have := World.block_lt_of_cell? _ _ hw196_2; first | rwa [add_block] at this | exact this) GW197.out))) _).trans (((cell_far (p := ⟨gb197, _, none⟩) (by first | exact Nat.ne_of_lt (Nat.lt_of_lt_of_le (by have := World.block_lt_of_cell? _ _ hw196_2; first | rwa [add_block] at this | exact this) GW197.out) | (rw [add_block]; exact Nat.ne_of_lt (Nat.lt_of_lt_of_le (by have := World.block_lt_of_cell? _ _ hw196_2; first | rwa [add_block] at this | exact this) GW197.out)) | (show (Addr.add _ _).block ≠ _; rw [add_block]; exact Nat.ne_of_lt (Nat.lt_of_lt_of_le (by have := World.block_lt_of_cell? _ _ hw196_2; first | rwa [add_block] at this | exact this) GW197.out)) | (dsimp only; exact Nat.ne_of_lt (Nat.lt_of_lt_of_le (by have := World.block_lt_of_cell? _ _ hw196_2; first | rwa [add_block] at this | exact this) GW197.out))) _).trans (((cell_far (p := ⟨gb197, _, none⟩) (by first | exact Nat.ne_of_lt (Nat.lt_of_lt_of_le (by have := World.block_lt_of_cell? _ _ hw196_2; first | rwa [add_block] at this | exact this) GW197.out) | (rw [add_block]; exact Nat.ne_of_lt (Nat.lt_of_lt_of_le (by have := World.block_lt_of_cell? _ _ hw196_2; first | rwa [add_block] at this | exact this) GW197.out)) | (show (Addr.add _ _).block ≠ _; rw [add_block]; exact Nat.ne_of_lt (Nat.lt_of_lt_of_le (by have := World.block_lt_of_cell? _ _ hw196_2; first | rwa [add_block] at this | exact this) GW197.out)) | (dsimp only; exact Nat.ne_of_lt (Nat.lt_of_lt_of_le (by have := World.block_lt_of_cell? _ _ hw196_2; first | rwa [add_block] at this | exact this) GW197.out))) _).trans (hHeld.2.2.2.2.2.2.2.2.2.2.1)))))), ((cell_far (p := ⟨gb197, _, none⟩) (by first | exact Nat.ne_of_lt (Nat.lt_of_lt_of_le (by have := World.block_lt_of_cell? _ _ hw196_3; first | rwa [add_block] at this | exact this) GW197.out) | (rw [add_block]; exact Nat.ne_of_lt (Nat.lt_of_lt_of_le (by have := World.block_lt_of_cell? _ _ hw196_3; first | rwa [add_block] at this | exact this) GW197.out)) | (show (Addr.add _ _).block ≠ _; rw [add_block]; exact Nat.ne_of_lt (Nat.lt_of_lt_of_le (by have := World.block_lt_of_cell? _ _ hw196_3; first | rwa [add_block] at this | exact this) GW197.out)) | (dsimp only; exact Nat.ne_of_lt (Nat.lt_of_lt_of_le (by have := World.block_lt_of_cell? _ _ hw196_3; first | rwa [add_block] at this | exact this) GW197.out))) _).trans (((cell_far (p := ⟨gb197, _, none⟩) (by first | exact Nat.ne_of_lt (Nat.lt_of_lt_of_le (by have := World.block_lt_of_cell? _ _ hw196_3; first | rwa [add_block] at this | exact this) GW197.out) | (rw [add_block]; exact Nat.ne_of_lt (Nat.lt_of_lt_of_le (by have := World.block_lt_of_cell? _ _ hw196_3; first | rwa [add_block] at this | exact this) GW197.out)) | (show (Addr.add _ _).block ≠ _; rw [add_block]; exact Nat.ne_of_lt (Nat.lt_of_lt_of_le (by have := World.block_lt_of_cell? _ _ hw196_3; first | rwa [add_block] at this | exact this) GW197.out)) | (dsimp only; exact Nat.ne_of_lt (Nat.lt_of_lt_of_le (by have := World.block_lt_of_cell? _ _ hw196_3; first | rwa [add_block] at this | exact this) GW197.out))) _).trans (((cell_far (p := ⟨gb197, _, none⟩) (by first | exact Nat.ne_of_lt (Nat.lt_of_lt_of_le (by have := World.block_lt_of_cell? _ _ hw196_3; first | rwa [add_block] at this | exact this) GW197.out) | (rw [add_block]; exact Nat.ne_of_lt (Nat.lt_of_lt_of_le (by have := World.block_lt_of_cell? _ _ hw196_3; first | rwa [add_block] at this | exact this) GW197.out)) | (show (Addr.add _ _).block ≠ _; rw [add_block]; exact Nat.ne_of_lt (Nat.lt_of_lt_of_le (by have := World.block_lt_of_cell? _ _ hw196_3; first | rwa [add_block] at this | exact this) GW197.out)) | (dsimp only; exact Nat.ne_of_lt (Nat.lt_of_lt_of_le (by have := World.block_lt_of_cell? _ _ hw196_3; first | rwa [add_block] at this | exact this) GW197.out))) _).trans (hHeld.2.2.2.2.2.2.2.2.2.2.2))))))⟩ (fun hHeld => ?_)
    clear hK K
    refine done_ (done_of HT_.out (by kernel_rfl)) ?_
    try go_wp2
    have n0_ : As0 ((((w24.setCell ⟨gb197, 0, none⟩ (.int .i64 (wrap64 (a1_0 + 1)))).setCell ⟨gb197, 1, none⟩ (.int .i64 (wrap64 (a1_1 - a2)))).setCell ⟨gb197, 2, none⟩ (.int .i64 (wrap64 (a1_2 - (wrap64 (a2 * ((rd_T46 l0_0 a1_0).f1))))))).heap[gb193]? = some (.cells #[.slice (some ad196) l0_0.length c0_0, .func (.func 29) #[] #[], .int .i64 a0_2, .map none, .map p4] 55 (0, 0))) := ⟨by (with_reducible repeat first | refine bkN ?_ _ | refine bkd ?_ | refine bka ?_ _); refine blk_far ?_ NB193_197.out _; (with_reducible repeat first | refine bkN ?_ _ | refine bkd ?_ | refine bka ?_ _); refine blk_far ?_ NB193_197.out _; (with_reducible repeat first | refine bkN ?_ _ | refine bkd ?_ | refine bka ?_ _); refine blk_far ?_ NB193_197.out _; (with_reducible repeat first | refine bkN ?_ _ | refine bkd ?_ | refine bka ?_ _); exact BK193.out⟩
    have n1_ : As0 ((((w24.setCell ⟨gb197, 0, none⟩ (.int .i64 (wrap64 (a1_0 + 1)))).setCell ⟨gb197, 1, none⟩ (.int .i64 (wrap64 (a1_1 - a2)))).setCell ⟨gb197, 2, none⟩ (.int .i64 (wrap64 (a1_2 - (wrap64 (a2 * ((rd_T46 l0_0 a1_0).f1))))))).heap[gb194]? = some (.cells #[.int .i64 a1_0, .int .i64 a1_1, .int .i64 a1_2] 63 (0, 0))) := ⟨by (with_reducible repeat first | refine bkN ?_ _ | refine bkd ?_ | refine bka ?_ _); refine blk_far ?_ NB194_197.out _; (with_reducible repeat first | refine bkN ?_ _ | refine bkd ?_ | refine bka ?_ _); refine blk_far ?_ NB194_197.out _; (with_reducible repeat first | refine bkN ?_ _ | refine bkd ?_ | refine bka ?_ _); refine blk_far ?_ NB194_197.out _; (with_reducible repeat first | refine bkN ?_ _ | refine bkd ?_ | refine bka ?_ _); exact BK194.out⟩
    have n2_ : As0 ((((w24.setCell ⟨gb197, 0, none⟩ (.int .i64 (wrap64 (a1_0 + 1)))).setCell ⟨gb197, 1, none⟩ (.int .i64 (wrap64 (a1_1 - a2)))).setCell ⟨gb197, 2, none⟩ (.int .i64 (wrap64 (a1_2 - (wrap64 (a2 * ((rd_T46 l0_0 a1_0).f1))))))).heap[gb195]? = some (.cells #[.int .i64 0, .int .i64 0, .int .i64 0] 63 (0, 0))) := ⟨by (with_reducible repeat first | refine bkN ?_ _ | refine bkd ?_ | refine bka ?_ _); refine blk_far ?_ NB195_197.out _; (with_reducible repeat first | refine bkN ?_ _ | refine bkd ?_ | refine bka ?_ _); refine blk_far ?_ NB195_197.out _; (with_reducible repeat first | refine bkN ?_ _ | refine bkd ?_ | refine bka ?_ _); refine blk_far ?_ NB195_197.out _; (with_reducible repeat first | refine bkN ?_ _ | refine bkd ?_ | refine bka ?_ _); exact BK195.out⟩
    have n3_ : As0 ((((w24.setCell ⟨gb197, 0, none⟩ (.int .i64 (wrap64 (a1_0 + 1)))).setCell ⟨gb197, 1, none⟩ (.int .i64 (wrap64 (a1_1 - a2)))).setCell ⟨gb197, 2, none⟩ (.int .i64 (wrap64 (a1_2 - (wrap64 (a2 * ((rd_T46 l0_0 a1_0).f1))))))).heap[gb197]? = some (.cells #[.int .i64 (wrap64 (a1_0 + 1)), .int .i64 (wrap64 (a1_1 - a2)), .int .i64 (wrap64 (a1_2 - (wrap64 (a2 * ((rd_T46 l0_0 a1_0).f1)))))] 63 (0, 0))) := ⟨by (with_reducible repeat first | refine bkN ?_ _ | refine bkd ?_ | refine bka ?_ _); refine blk_put (cs := #[.int .i64 (wrap64 (a1_0 + 1)), .int .i64 (wrap64 (a1_1 - a2)), .int .i64 0]) ?_ 2 _ rfl; (with_reducible repeat first | refine bkN ?_ _ | refine bkd ?_ | refine bka ?_ _); refine blk_put (cs := #[.int .i64 (wrap64 (a1_0 + 1)), .int .i64 0, .int .i64 0]) ?_ 1 _ rfl; (with_reducible repeat first | refine bkN ?_ _ | refine bkd ?_ | refine bka ?_ _); refine blk_put (cs := #[.int .i64 0, .int .i64 0, .int .i64 0]) ?_ 0 _ rfl; (with_reducible repeat first | refine bkN ?_ _ | refine bkd ?_ | refine bka ?_ _); exact BK197.out⟩
    have n4_ : As0 (Below w.heap.size w (((w24.setCell ⟨gb197, 0, none⟩ (.int .i64 (wrap64 (a1_0 + 1)))).setCell ⟨gb197, 1, none⟩ (.int .i64 (wrap64 (a1_1 - a2)))).setCell ⟨gb197, 2, none⟩ (.int .i64 (wrap64 (a1_2 - (wrap64 (a2 * ((rd_T46 l0_0 a1_0).f1)))))))) := ⟨by repeat (with_reducible first | exact HB.out | apply bal | apply pbN | apply bdw | refine bst ?_ GE193.out | refine bst ?_ GE194.out | refine bst ?_ GE195.out | refine bst ?_ GE197.out)⟩
    (try clear BK193)
    (try clear BK194)
    (try clear BK195)
    (try clear BK197)
    (try clear HB)
    generalize (((w24.setCell ⟨gb197, 0, none⟩ (.int .i64 (wrap64 (a1_0 + 1)))).setCell ⟨gb197, 1, none⟩ (.int .i64 (wrap64 (a1_1 - a2)))).setCell ⟨gb197, 2, none⟩ (.int .i64 (wrap64 (a1_2 - (wrap64 (a2 * ((rd_T46 l0_0 a1_0).f1))))))) = w28 at n0_ n1_ n2_ n3_ n4_ ⊢
    have BK193 := n0_
    have BK194 := n1_
    have BK195 := n2_
    have BK197 := n3_
    have HB := n4_
    clear n0_ n1_ n2_ n3_ n4_
    have n0_ := As0.mk (bkd BK193.out)
    have n1_ := As0.mk (bkd BK194.out)
    have n2_ := As0.mk (bkd BK195.out)
    have n3_ := As0.mk (bkd BK197.out)
    have n4_ := As0.mk (bdw HB.out)
    clear BK193
    clear BK194
    clear BK195
    clear BK197
    clear HB
    have BK193 := n0_
    have BK194 := n1_
    have BK195 := n2_
    have BK197 := n3_
    have HB := n4_
    clear n0_ n1_ n2_ n3_ n4_
    refine start_ (n := 11) (S := fun w' => w'.cell? ⟨gb197, 0, none⟩ = some (.int .i64 (wrap64 (a1_0 + 1))) ∧ w'.cell? ⟨gb197, 1, none⟩ = some (.int .i64 (wrap64 (a1_1 - a2))) ∧ w'.cell? ⟨gb197, 2, none⟩ = some (.int .i64 (wrap64 (a1_2 - (wrap64 (a2 * ((rd_T46 l0_0 a1_0).f1))))))) (ds := []) #[false, false, false, false, false, false, false, false, false, false, false] (by kernel_rfl) rfl rfl ⟨(bkc BK197.out 0).trans rfl, (bkc BK197.out 1).trans rfl, (bkc BK197.out 2).trans rfl⟩ (fun hHeld => ?_); refine with_tabW impl_mixes_after.tab2 impl_mixes_after.bits2 (fun HT_ HW_ => ?_)
    generalize w28.drew = w29 at BK193 BK194 BK195 BK197 HB hHeld ⊢
    refine pure_ (i := 1) (N := some 30) (v := ?_) (a' := ?_) #[false, true, false, false, false, false, false, false, false, false, false] rfl rfl (any_of HT_.out (by kernel_rfl)) (fun _ _ _ h => h) (Or.inl ⟨by rfl, ?_⟩) ?_ ?_
    rotate_left
    ·intro w'
     go_simp
     with_reducible rfl
    rotate_left
    ·simp only [Act.put, sla, slz, sls, i64_w, i32_w]
     rfl
    refine take_ (i := 0) (N := some 29) (v := ?_) (a' := ?_) #[true, true, false, false, false, false, false, false, false, false, false] rfl rfl (take_ofW HT_.out HW_.out (by kernel_rfl)) (fun _ _ _ h => h) (Or.inl ⟨by rfl, ?_⟩) hHeld ?_ ?_
    rotate_left
    ·rintro w' ⟨s0, s1, s2⟩
     go_simp
     with_reducible rfl
    rotate_left
    ·simp only [Act.put, sla, slz, sls, i64_w, i32_w]
     rfl
    refine take_ (i := 2) (N := some 31) (v := ?_) (a' := ?_) #[true, true, true, false, false, false, false, false, false, false, false] rfl rfl (take_ofW HT_.out HW_.out (by kernel_rfl)) (fun _ _ _ h => h) (Or.inl ⟨by rfl, ?_⟩) hHeld ?_ ?_
    rotate_left
    ·rintro w' ⟨s0, s1, s2⟩
     go_simp
     with_reducible rfl
    rotate_left
    ·simp only [Act.put, sla, slz, sls, i64_w, i32_w]
     rfl
    refine pure_ (i := 3) (N := some 32) (v := ?_) (a' := ?_) #[true, true, true, true, false, false, false, false, false, false, false] rfl rfl (any_of HT_.out (by kernel_rfl)) (fun _ _ _ h => h) (Or.inl ⟨by rfl, ?_⟩) ?_ ?_
    rotate_left
    ·intro w'
     go_simp
     with_reducible rfl
    rotate_left
    ·simp only [Act.put, sla, slz, sls, i64_w, i32_w]
     rfl
    refine pure_ (i := 4) (N := some 33) (v := ?_) (a' := ?_) #[true, true, true, true, true, false, false, false, false, false, false] rfl rfl (any_of HT_.out (by kernel_rfl)) (fun _ _ _ h => h) (Or.inl ⟨by rfl, ?_⟩) ?_ ?_
    rotate_left
    ·intro w'
     go_simp
     with_reducible rfl
    rotate_left
    ·simp only [Act.put, sla, slz, sls, i64_w, i32_w]
     rfl
    refine pure_ (i := 5) (N := some 34) (v := undef) (a' := ?_) #[true, true, true, true, true, true, false, false, false, false, false] rfl rfl (any_of HT_.out (by kernel_rfl)) (fun _ _ _ h => h) (Or.inr ⟨by rfl, rfl⟩) ?_ ?_
    rotate_left
    ·simp only [Act.put, sla, slz, sls, i64_w, i32_w]
     rfl
    refine pure_ (i := 6) (N := some 35) (v := undef) (a' := ?_) #[true, true, true, true, true, true, true, false, false, false, false] rfl rfl (any_of HT_.out (by kernel_rfl)) (fun _ _ _ h => h) (Or.inr ⟨by rfl, rfl⟩) ?_ ?_
    rotate_left
    ·simp only [Act.put, sla, slz, sls, i64_w, i32_w]
     rfl
    refine pure_ (i := 7) (N := some 36) (v := undef) (a' := ?_) #[true, true, true, true, true, true, true, true, false, false, false] rfl rfl (any_of HT_.out (by kernel_rfl)) (fun _ _ _ h => h) (Or.inr ⟨by rfl, rfl⟩) ?_ ?_
    rotate_left
    ·simp only [Act.put, sla, slz, sls, i64_w, i32_w]
     rfl
    refine pure_ (i := 8) (N := some 37) (v := ?_) (a' := ?_) #[true, true, true, true, true, true, true, true, true, false, false] rfl rfl (any_of HT_.out (by kernel_rfl)) (fun _ _ _ h => h) (Or.inl ⟨by rfl, ?_⟩) ?_ ?_
    rotate_left
    ·intro w'
     go_simp
     with_reducible rfl
    rotate_left
    ·simp only [Act.put, sla, slz, sls, i64_w, i32_w]
     rfl
    refine one_ (i := 9) (N := none) #[true, true, true, true, true, true, true, true, true, true, false] rfl rfl (one_of HT_.out (by kernel_rfl)) (by decide) (fun K hK => ?_)
    have hs30 : w29.cell? ⟨gb195, 0, none⟩ = some (.int .i64 0) := (bkc BK195.out 0).trans rfl
    have hfs30 := bkf BK195.out 0
    have hns30_0 := NB193_195.out
    have hns30_1 := NB194_195.out
    have hns30_3 := NB197_195.out
    have hms30_0 := NB195_193.out
    have hms30_1 := NB195_194.out
    have hms30_3 := NB195_197.out
    have hs31 : w29.cell? ⟨gb195, 1, none⟩ = some (.int .i64 0) := (bkc BK195.out 1).trans rfl
    have hfs31 := bkf BK195.out 1
    have hns31_0 := NB193_195.out
    have hns31_1 := NB194_195.out
    have hns31_3 := NB197_195.out
    have hms31_0 := NB195_193.out
    have hms31_1 := NB195_194.out
    have hms31_3 := NB195_197.out
    have hs32 : w29.cell? ⟨gb195, 2, none⟩ = some (.int .i64 0) := (bkc BK195.out 2).trans rfl
    have hfs32 := bkf BK195.out 2
    have hns32_0 := NB193_195.out
    have hns32_1 := NB194_195.out
    have hns32_3 := NB197_195.out
    have hms32_0 := NB195_193.out
    have hms32_1 := NB195_194.out
    have hms32_3 := NB195_197.out
    refine skip_ (w1 := ?_) (by rfl) rfl ?_ ?_
    rotate_left
    ·go_simp
     rfl
    refine hK.out _ _ ⟨((cell_far (p := ⟨gb195, _, none⟩) NB197_195.out _).trans (((cell_far (p := ⟨gb195, _, none⟩) NB197_195.out _).trans (((cell_far (p := ⟨gb195, _, none⟩) NB197_195.out _).trans (hHeld.1)))))), ((cell_far (p := ⟨gb195, _, none⟩) NB197_195.out _).trans (((cell_far (p := ⟨gb195, _, none⟩) NB197_195.out _).trans (((cell_far (p := ⟨gb195, _, none⟩) NB197_195.out _).trans (hHeld.2.1)))))), ((cell_far (p := ⟨gb195, _, none⟩) NB197_195.out _).trans (((cell_far (p := ⟨gb195, _, none⟩) NB197_195.out _).trans (((cell_far (p := ⟨gb195, _, none⟩) NB197_195.out _).trans (hHeld.2.2))))))⟩ (fun hHeld => ?_)
    clear hK K
    refine pure_ (i := 10) (N := some 7) (v := ?_) (a' := ?_) #[true, true, true, true, true, true, true, true, true, true, true] rfl rfl (any_of HT_.out (by kernel_rfl)) (fun _ _ _ h => h) (Or.inl ⟨by rfl, ?_⟩) ?_ ?_
    rotate_left
    ·intro w'
     go_simp
     with_reducible rfl
    rotate_left
    ·simp only [Act.put, sla, slz, sls, i64_w, i32_w]
     rfl
    refine done_ (done_of HT_.out (by kernel_rfl)) ?_
    try go_wp2
    refine bodyPost_ret (results_ct rfl _ _ gb195 63 #[.int .i64 (wrap64 (a1_0 + 1)), .int .i64 (wrap64 (a1_1 - a2)), .int .i64 (wrap64 (a1_2 - (wrap64 (a2 * ((rd_T46 l0_0 a1_0).f1)))))] (0, 0) _ rfl (by (with_reducible repeat first | refine bkN ?_ _ | refine bkd ?_ | refine bka ?_ _); refine blk_put (cs := #[.int .i64 (wrap64 (a1_0 + 1)), .int .i64 (wrap64 (a1_1 - a2)), .int .i64 0]) ?_ 2 _ rfl; (with_reducible repeat first | refine bkN ?_ _ | refine bkd ?_ | refine bka ?_ _); refine blk_put (cs := #[.int .i64 (wrap64 (a1_0 + 1)), .int .i64 0, .int .i64 0]) ?_ 1 _ rfl; (with_reducible repeat first | refine bkN ?_ _ | refine bkd ?_ | refine bka ?_ _); refine blk_put (cs := #[.int .i64 0, .int .i64 0, .int .i64 0]) ?_ 0 _ rfl; (with_reducible repeat first | refine bkN ?_ _ | refine bkd ?_ | refine bka ?_ _); exact BK195.out) Try.underlying63 rfl (by kernel_rfl)) rfl ?_
    exact ⟨by first | rfl | (simp [eWn, eWs] <;> rfl) | (simp [*, eWn, eWs] <;> rfl), by repeat (with_reducible first | exact HB.out | apply bal | apply pbN | apply bdw | refine bst ?_ GE193.out | refine bst ?_ GE194.out | refine bst ?_ GE195.out | refine bst ?_ GE197.out)⟩
  ·rw [if_neg c5] at H
   exact absurd H (by simp)
 ·rw [if_neg c4] at H
  exact absurd H (by simp)

end Go.Proofs.Ytnhkamfccoppbaa.QCleanestMix
