-- Written by press.py, a program of this session, round the kit's print.py (functions and contracts; Lean checks them).
import Derived.Lib.Overlaps
import Derived.Lib.AppendZerosOnto
import Derived.Laws.Externs
import Derived.Deep.RegionLaw
import Derived.Test.YtjccjmjnlblhaaaQMovedTenantx0
namespace Go.Proofs.Ytjccjmjnlblhaaa.QMovedTenant
open Go.Proofs.Ytjccjmjnlblhaaa.QWords
attribute [local go_sem high] binOp_string_geq_q binOp_string_leq_q binOp_string_gtr_q
open Go.RowKit Go.Proofs.YtjccjmjnlblhaaaW.PrintWords Go.Proofs.YtjccjmjnlblhaaaW.PrintLast Go.Proofs.YtjccjmjnlblhaaaW.PrintMore
attribute [local go_sem] max2_int min2_int max_two min_two max_three min_three max_four min_four   -- for this text's walks alone
set_option linter.unusedVariables false
set_option linter.unusedSimpArgs false

/-! ### slices.Insert: what its steps do to rows of one's own, over any program -/
theorem run_copyK {P : Program} (w : World) (dT sT ty elem : TypeId) (k g o dLen dCap : Nat) (a : Addr) (sLen sCap : Nat) (cur : Array Value) (t : TypeId) (cs : List Value)
    (hu : P.underlying dT = some (.slice elem)) (hs : (P.info? elem).map (·.size) = some k)
    (hg : w.heap[g]? = some (.cells cur t (0, 0))) (hn : cs.length = Nat.min sLen dLen * k)
    (hsrc : ∀ j v, cs[j]? = some v → w.cell? (a.add j) = some v) (hfit : o + cs.length ≤ cur.size) (h1 : ∀ v ∈ cs, v.oneCell' = true) :
    (Builtin.copy_ #[dT, sT] ty #[.slice (some ⟨g, o, none⟩) dLen dCap, .slice (some a) sLen sCap]).run P w =
      .ok (goInt (Nat.min sLen dLen)) (w.setRow g (cur.toList.take o ++ cs ++ cur.toList.drop (o + cs.length)).toArray) := by
  have hl := run_loadCells_list (P := P) w a cs hsrc
  have hst := run_storeCells_at P g o t cs 0 cur w hg (by simpa using hfit) h1
  cases hq : P.info? elem with
  | none => simp [hq] at hs
  | some i =>
    have hi : i.size = k := by simpa [hq] using hs
    simp [Builtin.copy_, run_underlying hu, Builtin.lenOf, Builtin.firstCells, sizeOf, typeInfo, hq, hi, ← hn, hl, hst]
theorem ins_list (cur X : List Value) (A N k : Nat) (hA : A ≤ N) (hN : N + k ≤ cur.length) (hX : X.length = k) (c1 : List Value)
    (h1 : c1 = cur.take (A + k) ++ (cur.take N).drop A ++ cur.drop (A + k + ((cur.take N).drop A).length)) :
    (c1.take A ++ X ++ c1.drop (A + X.length)).take (N + k) = (cur.take N).take A ++ X ++ (cur.take N).drop A ∧ c1.length = cur.length ∧ (c1.take A ++ X ++ c1.drop (A + X.length)).length = cur.length := by
  have hT : ((cur.take N).drop A).length = N - A := by rw [List.length_drop, List.length_take]; omega
  have hc : (cur.take (A + k)).length = A + k := by rw [List.length_take]; omega
  have e1 : c1.take A = cur.take A := by
    rw [h1, List.append_assoc, List.take_append_of_le_length (by omega), List.take_take, Nat.min_eq_left (by omega)]
  have e2 : c1.drop (A + X.length) = (cur.take N).drop A ++ cur.drop (A + k + ((cur.take N).drop A).length) := by
    rw [h1, hX, List.append_assoc, List.drop_append_of_le_length (by omega), List.drop_of_length_le (by omega), List.nil_append]
  have l1 : c1.length = cur.length := by rw [h1]; simp only [List.length_append, hc, hT, List.length_drop]; omega
  refine ⟨?_, l1, ?_⟩
  · rw [e1, e2, List.take_take, Nat.min_eq_left (by omega), ← List.append_assoc]
    exact List.take_left' (by simp only [List.length_append, hT, hX, List.length_take]; omega)
  · simp only [List.length_append, List.length_take, List.length_drop, l1, hX]; omega
theorem ins_new (T1 X T2 Z : List Value) (A k : Nat) (hA : T1.length = A) (hX : X.length = k) (cur c1 c2 : List Value) (hcur : cur = T1 ++ Z) (hZ : k + T2.length ≤ Z.length)
    (h1 : c1 = cur.take A ++ X ++ cur.drop (A + X.length)) (h2 : c2 = c1.take (A + k) ++ T2 ++ c1.drop (A + k + T2.length)) :
    c2.take (A + k + T2.length) = T1 ++ X ++ T2 ∧ c2.length = cur.length ∧ c1.length = cur.length := by
  have e0 : cur.take A = T1 := by rw [hcur]; exact List.take_left' hA
  have e1 : c1.take (A + k) = T1 ++ X := by
    rw [h1, e0]
    exact List.take_left' (by rw [List.length_append]; omega)
  have hl : cur.length = A + Z.length := by rw [hcur, List.length_append, hA]
  have l1 : c1.length = cur.length := by rw [h1, e0]; simp only [List.length_append, List.length_drop]; omega
  refine ⟨?_, ?_, l1⟩
  · rw [h2, e1]
    exact List.take_left' (by simp only [List.length_append]; omega)
  · rw [h2, e1]
    simp only [List.length_append, List.length_drop]
    omega
theorem ownsRow_heap {w w' : World} {b : Nat} {e : TypeId} {k : Nat} {v : Value} {n : Nat} {xs : List Value} (hh : w'.heap = w.heap) (h : w.ownsRow b e k v n xs) : w'.ownsRow b e k v n xs := by
  unfold World.ownsRow at *
  rw [hh]
  exact h
theorem Reps.app {α : Type} {R : α → List Value → Prop} {sz : Nat} {a b : List α} {ca cb : List Value} (h1 : Reps R sz a ca) (h2 : Reps R sz b cb) : Reps R sz (a ++ b) (ca ++ cb) := by
  refine ⟨by rw [List.length_append, h1.1, h2.1, List.length_append, Nat.add_mul], fun j q hq => ?_⟩
  by_cases hj : j < a.length
  · rw [List.getElem?_append_left hj] at hq
    have hle : j * sz + sz ≤ ca.length := by rw [h1.1, ← Nat.succ_mul]; exact Nat.mul_le_mul_right _ hj
    rw [List.drop_append_of_le_length (by omega), List.take_append_of_le_length (by rw [List.length_drop]; omega)]
    exact h1.2 j q hq
  · rw [List.getElem?_append_right (by omega)] at hq
    have e : (ca ++ cb).drop (j * sz) = cb.drop ((j - a.length) * sz) := by
      rw [List.drop_append, List.drop_of_length_le (by rw [h1.1]; exact Nat.mul_le_mul_right _ (by omega)), List.nil_append, h1.1, Nat.sub_mul]
    rw [e]
    exact h2.2 _ q hq
theorem Reps.take_ {α : Type} {R : α → List Value → Prop} {sz : Nat} {a : List α} {ca : List Value} (h : Reps R sz a ca) (i : Nat) (hi : i ≤ a.length) : Reps R sz (a.take i) (ca.take (i * sz)) := by
  have hle : i * sz ≤ ca.length := by rw [h.1]; exact Nat.mul_le_mul_right _ hi
  refine ⟨by rw [List.length_take, List.length_take, Nat.min_eq_left hi, Nat.min_eq_left hle], fun j q hq => ?_⟩
  rw [List.getElem?_take] at hq
  split at hq
  · rename_i hj
    have hle2 : j * sz + sz ≤ i * sz := by rw [← Nat.succ_mul]; exact Nat.mul_le_mul_right _ hj
    rw [List.drop_take, List.take_take, Nat.min_eq_left (by omega)]
    exact h.2 j q hq
  · cases hq
theorem Reps.drop_ {α : Type} {R : α → List Value → Prop} {sz : Nat} {a : List α} {ca : List Value} (h : Reps R sz a ca) (i : Nat) : Reps R sz (a.drop i) (ca.drop (i * sz)) := by
  refine ⟨by rw [List.length_drop, List.length_drop, h.1, Nat.sub_mul], fun j q hq => ?_⟩
  rw [List.getElem?_drop] at hq
  rw [List.drop_drop, ← Nat.add_mul]
  exact h.2 _ q hq
theorem Kd.M_flat {α : Type} {d : Kd α} (hE : d.E = []) {w w1 : World} {b b1 : Nat} {ok ok1 : Nat → Prop} {x : α} {cs : List Value} (h : d.M w b ok x cs) (hb : b1 ≤ b) : d.M w1 b1 ok1 x cs := by
  have h1 : d.M w b (fun _ => False) x cs := d.M_mono (fun k hk => by
    obtain ⟨_, _, _, q, hq, _⟩ := hk
    rw [hE] at hq
    cases hq) (d.M_bound h)
  exact d.M_mono (fun _ hk => hk.elim) (d.M_lower hb (d.M_move (w1 := w1) (fun _ hk => hk.elim) h1))
/-- A row that was written anew: an element put in between. -/
theorem Kd.R_ins {α : Type} {d : Kd α} (hE : d.E = []) {e : Nat} {w w1 : World} {b b2 : Nat} {ok1 ok ok2 : Nat → Prop} {v1 : Value} {xs ys : List α} {inner X : List Value} (i : Nat) (hi : i ≤ xs.length)
    (h0 : Reps (d.M w b ok) d.sz xs inner) (h2 : Reps (d.M w b2 ok2) d.sz ys X) (hb : b ≤ b2) (hok : ∀ k, v1.ownBlock = some k → ok1 k)
    (ho : w1.ownsRow b e d.sz v1 (xs.length + ys.length) (inner.take (i * d.sz) ++ X ++ inner.drop (i * d.sz))) : d.R e w1 b ok1 v1 (xs.take i ++ ys ++ xs.drop i) := by
  refine ⟨hok, inner.take (i * d.sz) ++ X ++ inner.drop (i * d.sz), ?_, ?_⟩
  · have e : (xs.take i ++ ys ++ xs.drop i).length = xs.length + ys.length := by simp only [List.length_append, List.length_take, List.length_drop]; omega
    rw [e]
    exact ho
  · have hr : Reps (d.M w1 b (fun k => ok1 k ∧ some k ≠ v1.ownBlock)) d.sz xs inner := h0.imp_ (fun _ _ hp => Kd.M_flat hE hp (Nat.le_refl _))
    have hr2 : Reps (d.M w1 b (fun k => ok1 k ∧ some k ≠ v1.ownBlock)) d.sz ys X := h2.imp_ (fun _ _ hp => Kd.M_flat hE hp hb)
    exact Reps.app (Reps.app (Reps.take_ hr i hi) hr2) (Reps.drop_ hr i)
theorem Kd.M_ones {α : Type} {d : Kd α} {w : World} {b : Nat} {ok : Nat → Prop} {xs : List α} {inner : List Value} (h0 : Reps (d.M w b ok) d.sz xs inner) (hs : 0 < d.sz) : ∀ u ∈ inner, u.oneCell' = true := by
  intro u hu
  obtain ⟨j, hj, e⟩ := List.getElem_of_mem hu
  have hm : j / d.sz < xs.length := by rw [h0.1] at hj; exact Nat.div_lt_of_lt_mul (by rw [Nat.mul_comm]; exact hj)
  have hk := d.K_one (d.K_of_M (h0.2 (j / d.sz) _ (List.getElem?_eq_getElem hm)))
  refine hk u ?_
  rw [List.mem_iff_getElem?]
  refine ⟨j % d.sz, ?_⟩
  have := Nat.mod_lt j hs
  rw [List.getElem?_take, if_pos this, List.getElem?_drop, Nat.mul_comm, Nat.div_add_mod, List.getElem?_eq_getElem hj, e]
theorem step_copy_runQ {P : Program} {ops : Array Oper} {o : Oper} {a : Act} {w : World} {K : Act → World → Prop} {Q : Exit → Act → World → Prop} {E : Prop}
    (hg : o.guard = none) (d x : Operand) (dT sT : TypeId) (hop : o.op = Op.call { callee := Callee.builtin Builtin.copy, args := #[d, x], argTypes := #[dT, sT] })
    (v u : Value) (hd : a.eval d = v) (hx : a.eval x = u) {v' : Value} {w' : World} (hr : (Builtin.copy_ #[dT, sT] o.type #[v, u]).run P w = .ok v' w') (hK : K (a.put o.dst v') w') :
    if Region.wanted o (yielded ops a.tmps) = true then Oper.wp P o a w K Q else E := by
  have hw : Region.wanted o (yielded ops a.tmps) = true := by simp [Region.wanted, hg]
  rw [if_pos hw]
  unfold Oper.wp
  simp [execOp, hop, resolve, invoke, builtin, hd, hx, hr, Result.andThen]
  exact hK
/-! ### slices_Insert_Tenant: function 106 (slices.Insert, one element put in), with slices.overlaps (165) -/
def slices_Insert_Tenant.f (l0 : List (S129)) (a1 : Int) (l2 : List (S129)) : Option (List (S129)) := if (0 ≤ a1 ∧ a1 ≤ (l0.length : Int) ∧ l2.length = 1 ∧ l0.length ≤ 1000000) then some (l0.take a1.toNat ++ l2 ++ l0.drop a1.toNat) else none
set_option maxHeartbeats 8000000 in
set_option maxRecDepth 100000 in
theorem slices_Insert_Tenant_end (w : World) (base b2 : Nat) (v0 : Value) (n : Nat) (inner X : List Value) (h0 : w.ownsRow base 129 3 v0 n inner) (g2 c2 : Nat) (h2 : w.ownsRow b2 129 3 (.slice (some ⟨g2, 0, none⟩) 1 c2) 1 X) (h1v : ∀ u ∈ X, u.oneCell' = true) (hn : n ≤ 1000000) (hbase : base ≤ w.heap.size) :
    Calls Try.prog 106 #[v0, .int .i64 n, .slice (some ⟨g2, 0, none⟩) 1 c2] w fun e w' => ∃ v', e = .returned v' ∧ w'.ownsRow base 129 3 v' (n + 1) (inner.take (n * 3) ++ X ++ inner.drop (n * 3)) ∧ w.grownBy w' v0.ownBlock ∧ (v'.ownBlock = v0.ownBlock ∨ v'.ownBlock = some w.heap.size) := by
  obtain ⟨i0, hi0, hz0, hzs, hzb⟩ := info_parts info129
  have hnews := h2.cells (g := g2) rfl
  obtain ⟨v1, w1, hr, ho, hg, _, hat⟩ := run_append_own_at (P := Try.prog) w base 51 51 129 i0 ((.agg #[(.string ⟨#[]⟩), (.int .i64 0), (.int .i64 0)])) 3 32 Try.underlying51 hi0 hz0 hzs hzb rfl (by omega) v0 n inner h0 ⟨g2, 0, none⟩ 1 c2 X (by rw [h2.1]) hnews h1v (by unfold maxLen; omega) (by omega) hbase
  have HR := Aside0.mk hr
  have HO := Aside0.mk ho
  have HG := Aside0.mk hg
  have HA := Aside0.mk hat
  have e1 : inner.take (n * 3) ++ X ++ inner.drop (n * 3) = inner ++ X := by
    have := h0.1
    rw [List.take_of_length_le (by omega), List.drop_of_length_le (by omega), List.append_nil]
  rw [e1]
  have hc2 : (1 : Nat) ≤ c2 := by
    rcases h2.2 with ⟨h, _⟩ | ⟨g', cap', cur', hv, _, _, hnc, _⟩
    · cases h
    · injection hv with _ _ hc
      omega
  rcases h0.2 with ⟨rfl, rfl⟩ | ⟨g, cap, cur, rfl, hb, hh, hnc, hcm, _⟩
  · clear hr ho hg hat hnews h0 h2 e1 hi0 hz0 hzs hzb
    go_enter Try.func106, Try.ntmps106
    go_wp2_with (at_builtin; refine Lib.wpList_append_run _ rfl _ _ _ _ rfl _ _ rfl rfl _ _ HR.out ?_)
    go_ret
    exact ⟨v1, rfl, HO.out, HG.out, HA.out⟩
  · clear hr ho hg hat hnews h0 h2 e1 hi0 hz0 hzs hzb hh
    have hcm' : cap ≤ 9223372036854775807 := by unfold maxLen at hcm; omega
    clear hcm
    go_enter Try.func106, Try.ntmps106
    go_wp2_with (at_builtin; refine Lib.wpList_append_run _ rfl _ _ _ _ rfl _ _ rfl rfl _ _ HR.out ?_)
    all_goals (go_ret; exact ⟨v1, rfl, HO.out, HG.out, HA.out⟩)
set_option maxHeartbeats 8000000 in
set_option maxRecDepth 100000 in
theorem slices_Insert_Tenant_shift (w : World) (base b2 : Nat) (g cap n i : Nat) (cur : Array Value) (X : List Value) (hh : w.heap[g]? = some (.cells cur 129 (0, 0))) (hb : base ≤ g) (hnc : n + 1 ≤ cap) (hcm : cap ≤ maxLen) (hcs : cur.size = cap * 3)
    (h1c : ∀ u ∈ cur.toList.take (n * 3), u.oneCell' = true) (hi : i < n) (hn : n ≤ 1000000) (g2 c2 : Nat) (h2 : w.ownsRow b2 129 3 (.slice (some ⟨g2, 0, none⟩) 1 c2) 1 X) (h1v : ∀ u ∈ X, u.oneCell' = true) (hne : g2 ≠ g) :
    Calls Try.prog 106 #[.slice (some ⟨g, 0, none⟩) n cap, .int .i64 i, .slice (some ⟨g2, 0, none⟩) 1 c2] w fun e w' => ∃ v', e = .returned v' ∧ w'.ownsRow base 129 3 v' (n + 1) ((cur.toList.take (n * 3)).take (i * 3) ++ X ++ (cur.toList.take (n * 3)).drop (i * 3)) ∧ w.grownBy w' (some g) ∧ (v'.ownBlock = some g ∨ v'.ownBlock = some w.heap.size) := by
  obtain ⟨i0, hi0, hz0, hzs, hzb⟩ := info_parts info129
  have hnews := h2.cells (g := g2) rfl
  have hsz : (Try.prog.info? 129).map (·.size) = some 3 := by rw [hi0]; simp [hzs]
  obtain ⟨cur2, hh2⟩ : ∃ cur2, w.heap[g2]? = some (.cells cur2 129 (0, 0)) := own_typed h2 g2 rfl
  have hX : X.length = 3 := by rw [h2.1]
  have hcz : cur2.size ≠ 0 := by
    rcases h2.2 with ⟨h, _⟩ | ⟨g', cap', cur', hv, _, hg', hnc', _, hcs', _⟩
    · cases h
    · injection hv with ha _ _
      injection ha with ha
      injection ha with ha
      subst ha
      rw [hh2] at hg'
      injection hg' with hg'
      injection hg' with hg'
      subst hg'
      omega
  have hsa : w.shape? g2 = some (129, cur2.size) := by simp [World.shape?, hh2]
  have hsb : w.shape? g = some (129, cur.size) := by simp [World.shape?, hh]
  have hfa : w.frozen? ⟨g2, 0, none⟩ = false := blk_frozen hh2 _
  have hfe : w.frozen? ⟨g2, cur2.size, none⟩ = false := blk_frozen hh2 _
  have hov : ∀ (o lb cb : Nat), (callFunc 165 #[.slice (some ⟨g2, 0, none⟩) 1 c2, .slice (some ⟨g, o, none⟩) lb cb]).run Try.prog w = .ok (.value (.bool false)) w := fun o lb cb => by
    rw [run_callFunc_extern Try.func165 (by kernel_rfl) (by kernel_rfl) (by kernel_rfl) (e := Extern.SlicesOverlaps.overlaps #[51, 51] #[4]) (by kernel_rfl),
      Lib.run_overlaps_apart w 51 4 129 Try.underlying51 3 (fun w => by simp [sizeOf, typeInfo, hi0, hzs]) ⟨g2, 0, none⟩ ⟨g, o, none⟩ 1 c2 lb cb hne 129 129 cur2.size cur.size hsa hsb (by omega) hfa hfe]
    rfl
  have hcl : cur.toList.length = cap * 3 := by rw [Array.length_toList, hcs]
  obtain ⟨T2, hT2⟩ : ∃ T2, T2 = (cur.toList.take (n * 3)).drop (i * 3) := ⟨_, rfl⟩
  have hTl : T2.length = (n - i) * 3 := by rw [hT2, List.length_drop, List.length_take]; omega
  have hTc : ∀ j v, T2[j]? = some v → w.cell? ⟨g, i * 3 + j, none⟩ = some v := fun j v hj => by
    rw [hT2, List.getElem?_drop, List.getElem?_take] at hj
    split at hj
    · rw [cell_of_row w g _ cur 129 (0, 0) hh, ← Array.getElem?_toList]
      exact hj
    · cases hj
  obtain ⟨L1, hL1⟩ : ∃ L1, L1 = cur.toList.take (i * 3 + 3) ++ (cur.toList.take (n * 3)).drop (i * 3) ++ cur.toList.drop (i * 3 + 3 + ((cur.toList.take (n * 3)).drop (i * 3)).length) := ⟨_, rfl⟩
  obtain ⟨hf1, hf2, hf3⟩ := ins_list cur.toList X (i * 3) (n * 3) 3 (by omega) (by omega) hX L1 hL1
  obtain ⟨W1, hW1⟩ : ∃ W1, W1 = w.drew.setRow g L1.toArray := ⟨_, rfl⟩
  have hg1 : W1.heap[g]? = some (.cells L1.toArray 129 (0, 0)) := by rw [hW1]; exact setRow_heap w.drew g cur _ 129 _ hh
  have hcp1 : ∀ ty dc sc, (Builtin.copy_ #[51, 51] ty #[.slice (some ⟨g, (i + 1) * 3, none⟩) (n - i) dc, .slice (some ⟨g, i * 3, none⟩) (n + 1 - i) sc]).run Try.prog w.drew = .ok (goInt (Nat.min (n + 1 - i) (n - i))) W1 := fun ty dc sc => by
    rw [hW1, hL1, ← hT2, run_copyK (P := Try.prog) w.drew 51 51 ty 129 3 g ((i + 1) * 3) (n - i) dc ⟨g, i * 3, none⟩ (n + 1 - i) sc cur 129 T2 Try.underlying51 hsz hh (by rw [hTl, show Nat.min (n + 1 - i) (n - i) = n - i by simp only [Nat.min_def]; split <;> omega]) (fun j v hj => by rw [Addr.add_lit]; exact hTc j v hj) (by omega) (fun v hv => h1c v (by rw [hT2] at hv; exact List.mem_of_mem_drop hv))]
    rw [show (i + 1) * 3 = i * 3 + 3 by omega]
  obtain ⟨W2, hW2⟩ : ∃ W2, W2 = W1.setRow g (L1.take (i * 3) ++ X ++ L1.drop (i * 3 + X.length)).toArray := ⟨_, rfl⟩
  have hcp2 : ∀ ty dc, (Builtin.copy_ #[51, 51] ty #[.slice (some ⟨g, i * 3, none⟩) (n + 1 - i) dc, .slice (some ⟨g2, 0, none⟩) 1 c2]).run Try.prog W1 = .ok (goInt (Nat.min 1 (n + 1 - i))) W2 := fun ty dc => by
    rw [hW2, run_copyK (P := Try.prog) W1 51 51 ty 129 3 g (i * 3) (n + 1 - i) dc ⟨g2, 0, none⟩ 1 c2 L1.toArray 129 X Try.underlying51 hsz hg1 (by rw [hX, show Nat.min 1 (n + 1 - i) = 1 by simp only [Nat.min_def]; split <;> omega]) (fun j v hj => by
      have h3 := hnews j v hj
      rw [hW1]
      exact (World.cell?_of_block (by rw [add_block]; exact setRow_other w.drew g g2 _ hne)).trans h3) (by simp only [List.size_toArray]; omega) h1v]
  have hg2 : W2.heap[g]? = some (.cells (L1.take (i * 3) ++ X ++ L1.drop (i * 3 + X.length)).toArray 129 (0, 0)) := by rw [hW2]; exact setRow_heap W1 g _ _ 129 _ hg1
  have FIN := Aside0.mk (show ∀ W : World, W.heap = W2.heap → W.os = W2.os → W.tape = W2.tape → W.output = W2.output → W.ownsRow base 129 3 (.slice (some ⟨g, 0, none⟩) (n + 1) cap) (n + 1) ((cur.toList.take (n * 3)).take (i * 3) ++ X ++ (cur.toList.take (n * 3)).drop (i * 3)) ∧ w.grownBy W (some g) from by
    intro W e1 e2 e3 e4
    have hs : w.heap.size = W.heap.size := by rw [e1, hW2, hW1]; simp
    refine ⟨⟨?_, .inr ⟨g, cap, _, rfl, hb, by rw [e1]; exact hg2, hnc, hcm, by simp only [List.size_toArray]; omega, ?_⟩⟩, ⟨by rw [e2, hW2, hW1]; rfl, by rw [e3, hW2, hW1]; rfl, by rw [e4, hW2, hW1]; rfl, by omega, fun k hk hkg => ?_⟩⟩
    · simp only [List.length_append, List.length_take, List.length_drop]; omega
    · rw [show (n + 1) * 3 = n * 3 + 3 by omega]
      exact hf1
    · have hkg' : k ≠ g := fun e => hkg (by rw [e])
      rw [e1, hW2, setRow_other W1 g k _ hkg', hW1, setRow_other w.drew g k _ hkg']
      rfl)
  have hcm' : cap ≤ 9223372036854775807 := by unfold maxLen at hcm; omega
  have HC1 := Aside0.mk hcp1
  have HC2 := Aside0.mk hcp2
  have HV := Aside0.mk hov
  have hw1 : IntKind.i64.wrap ((i : Int) + 1) = (i : Int) + 1 := by rw [IntKind.wrap_i64]; omega
  have hz2 : ¬ ((i : Int) = (n : Int)) := by omega
  have hb1 : (0 : Int) ≤ (i : Int) + 1 := by omega
  have htn : ((i : Int) + 1).toNat = i + 1 := by omega
  have hb2 : ¬ (cap = i + 1) := by omega
  have hb3 : (i : Int) ≤ (n : Int) + 1 := by omega
  have hb4 : ¬ (cap = i) := by omega
  have hin : i ≤ n := by omega
  have hv0 := hov
  clear hh hnews hi0 hz0 hzs hzb hsz hh2 hX hcz hsa hsb hfa hfe hcl hT2 hTl hTc hL1 hf1 hf2 hf3 hW1 hg1 hcp1 hW2 hcp2 hg2 h1c h1v h2 hcs hb hcm
  go_enter Try.func106, Try.ntmps106
  go_wp2_with (simp only [hv0])
  go_region_law (refine step_copy_runQ rfl _ _ 51 51 rfl (.slice (some ⟨g, (i + 1) * 3, none⟩) (n - i) (cap - (i + 1))) (.slice (some ⟨g, i * 3, none⟩) (n + 1 - i) (cap - i)) (by simp [Act.eval, Act.put]) (by simp [Act.eval, Act.put]) (HC1.out _ _ _) ?_)
  go_wp2_with (simp only [HC2.out])
  go_ret
  exact ⟨_, rfl, (FIN.out _ rfl rfl rfl rfl).1, (FIN.out _ rfl rfl rfl rfl).2, .inl rfl⟩
set_option maxHeartbeats 8000000 in
set_option maxRecDepth 100000 in
theorem slices_Insert_Tenant_grow (w : World) (base b2 : Nat) (g cap n i : Nat) (cur : Array Value) (X : List Value) (hh : w.heap[g]? = some (.cells cur 129 (0, 0))) (hnc : n ≤ cap) (hroom : cap < n + 1) (hcm : cap ≤ maxLen) (hcs : cur.size = cap * 3)
    (h1c : ∀ u ∈ cur.toList.take (n * 3), u.oneCell' = true) (hi : i < n) (hn : n ≤ 1000000) (g2 c2 : Nat) (h2 : w.ownsRow b2 129 3 (.slice (some ⟨g2, 0, none⟩) 1 c2) 1 X) (h1v : ∀ u ∈ X, u.oneCell' = true) (hbase : base ≤ w.heap.size) :
    Calls Try.prog 106 #[.slice (some ⟨g, 0, none⟩) n cap, .int .i64 i, .slice (some ⟨g2, 0, none⟩) 1 c2] w fun e w' => ∃ v', e = .returned v' ∧ w'.ownsRow base 129 3 v' (n + 1) ((cur.toList.take (n * 3)).take (i * 3) ++ X ++ (cur.toList.take (n * 3)).drop (i * 3)) ∧ w.grownBy w' (some g) ∧ (v'.ownBlock = some g ∨ v'.ownBlock = some w.heap.size) := by
  obtain ⟨i0, hi0, hz0, hzs, hzb⟩ := info_parts info129
  have hnews := h2.cells (g := g2) rfl
  have hsz : (Try.prog.info? 129).map (·.size) = some 3 := by rw [hi0]; simp [hzs]
  have hX : X.length = 3 := by rw [h2.1]
  have hgw : g < w.heap.size := (Array.getElem?_eq_some_iff.1 hh).1
  have hg2w : g2 < w.heap.size := (h2.lt g2 rfl).2
  have hcl : cur.toList.length = cap * 3 := by rw [Array.length_toList, hcs]
  obtain ⟨T1, hT1⟩ : ∃ T1, T1 = (cur.toList.take (n * 3)).take (i * 3) := ⟨_, rfl⟩
  obtain ⟨T2, hT2⟩ : ∃ T2, T2 = (cur.toList.take (n * 3)).drop (i * 3) := ⟨_, rfl⟩
  have hT1l : T1.length = i * 3 := by rw [hT1, List.length_take, List.length_take]; omega
  have hTl : T2.length = (n - i) * 3 := by rw [hT2, List.length_drop, List.length_take]; omega
  have hcell : ∀ j v, (cur.toList.take (n * 3))[j]? = some v → w.cell? ⟨g, j, none⟩ = some v := fun j v hj => by
    rw [List.getElem?_take] at hj
    split at hj
    · rw [cell_of_row w g _ cur 129 (0, 0) hh, ← Array.getElem?_toList]
      exact hj
    · cases hj
  have hTc : ∀ j v, T2[j]? = some v → w.cell? ⟨g, i * 3 + j, none⟩ = some v := fun j v hj => hcell _ v (by rwa [hT2, List.getElem?_drop] at hj)
  have hold : (Builtin.firstCells i0.size i (.slice (some ⟨g, 0, none⟩) i cap)).run Try.prog w.drew = .ok T1.toArray w.drew := by
    rw [hzs]
    exact run_firstCells_some w.drew 3 i ⟨g, 0, none⟩ i cap T1 (by rw [hT1l]) (fun j v hj => by
      rw [Addr.add_lit, Nat.zero_add]
      rw [hT1, List.getElem?_take] at hj
      split at hj
      · exact hcell j v hj
      · cases hj)
  have hkk : (n : Int) + 1 - (i : Int) = ((n + 1 - i : Nat) : Int) := by omega
  have hik : i + (n + 1 - i) = n + 1 := by omega
  obtain ⟨G, hG⟩ : ∃ G, G = grownCap w (n + 1) cap 129 := ⟨_, rfl⟩
  have hGn : n + 1 ≤ G := by rw [hG]; exact grownCap_ge w _ _ _
  have hGm : G ≤ maxLen := by rw [hG]; exact grownCap_le_maxLen w (n + 1) cap 129 (by unfold maxLen; omega)
  obtain ⟨ROW, hROW⟩ : ∃ ROW : Array Value, ROW = T1.toArray ++ Builtin.zeroCells (((.agg #[(.string ⟨#[]⟩), (.int .i64 0), (.int .i64 0)])) : Value).cells (n + 1 - i) ++ Builtin.zeroCells (((.agg #[(.string ⟨#[]⟩), (.int .i64 0), (.int .i64 0)])) : Value).cells (G - (n + 1)) := ⟨_, rfl⟩
  have hrz : ∀ ty, (Builtin.append_ #[51, 3] ty #[.slice (some ⟨g, 0, none⟩) i cap, .int .i64 ((n : Int) + 1 - (i : Int))]).run Try.prog w = .ok (.slice (some ⟨w.heap.size, 0, none⟩) (n + 1) G) (w.drew.alloc (.cells ROW 129)) := fun ty => by
    have h := Lib.run_append_grow_zeros w 51 3 ty 129 i0 _ .i64 .i64 Try.underlying51 Try.underlying3 hi0 hz0 (some ⟨g, 0, none⟩) i cap T1 hold (n + 1 - i) (by omega) (by omega) (by omega) (by omega) (by rw [hzb]; omega) (by rw [hzb, hik]; exact growslice_fits hroom (by omega))
    rw [hik, ← hG, ← hROW] at h
    rw [hkk]
    exact h
  have hz3 : (Builtin.zeroCells (((.agg #[(.string ⟨#[]⟩), (.int .i64 0), (.int .i64 0)])) : Value).cells (n + 1 - i)).size = (n + 1 - i) * 3 := size_zeroCells _ _
  have hz4 : (Builtin.zeroCells (((.agg #[(.string ⟨#[]⟩), (.int .i64 0), (.int .i64 0)])) : Value).cells (G - (n + 1))).size = (G - (n + 1)) * 3 := size_zeroCells _ _
  have hRs : ROW.size = G * 3 := by rw [hROW, Array.size_append, Array.size_append, hz3, hz4, List.size_toArray, hT1l]; omega
  obtain ⟨Z, hZ⟩ : ∃ Z, Z = (Builtin.zeroCells (((.agg #[(.string ⟨#[]⟩), (.int .i64 0), (.int .i64 0)])) : Value).cells (n + 1 - i) ++ Builtin.zeroCells (((.agg #[(.string ⟨#[]⟩), (.int .i64 0), (.int .i64 0)])) : Value).cells (G - (n + 1))).toList := ⟨_, rfl⟩
  have hRl : ROW.toList = T1 ++ Z := by rw [hROW, hZ, Array.append_assoc, Array.toList_append]
  have hZl : Z.length = (n + 1 - i) * 3 + (G - (n + 1)) * 3 := by rw [hZ, Array.length_toList, Array.size_append, hz3, hz4]
  clear hROW
  obtain ⟨N, hN⟩ : ∃ N, N = w.heap.size := ⟨_, rfl⟩
  obtain ⟨W0, hW0⟩ : ∃ W0, W0 = w.drew.alloc (.cells ROW 129) := ⟨_, rfl⟩
  have h00 : W0.heap[N]? = some (.cells ROW 129 (0, 0)) := by rw [hW0, hN]; exact heap_alloc_new w.drew _
  have h0o : ∀ k, k < w.heap.size → W0.heap[k]? = w.heap[k]? := fun k hk => by rw [hW0]; first | exact heap_alloc_old w.drew _ k hk | exact heap_alloc_old w.drew _ hk
  rw [← hN, ← hW0] at hrz
  obtain ⟨L1, hL1⟩ : ∃ L1, L1 = ROW.toList.take (i * 3) ++ X ++ ROW.toList.drop (i * 3 + X.length) := ⟨_, rfl⟩
  obtain ⟨L2, hL2⟩ : ∃ L2, L2 = L1.take (i * 3 + 3) ++ T2 ++ L1.drop (i * 3 + 3 + T2.length) := ⟨_, rfl⟩
  obtain ⟨hf1, hf2, hf3⟩ := ins_new T1 X T2 Z (i * 3) 3 hT1l hX ROW.toList L1 L2 hRl (by omega) hL1 hL2
  have hRtl : ROW.toList.length = G * 3 := by rw [Array.length_toList, hRs]
  obtain ⟨W1, hW1⟩ : ∃ W1, W1 = W0.setRow N L1.toArray := ⟨_, rfl⟩
  have h11 : W1.heap[N]? = some (.cells L1.toArray 129 (0, 0)) := by rw [hW1]; exact setRow_heap W0 N _ _ 129 _ h00
  have hcp1 : ∀ ty dc, (Builtin.copy_ #[51, 51] ty #[.slice (some ⟨N, i * 3, none⟩) (n + 1 - i) dc, .slice (some ⟨g2, 0, none⟩) 1 c2]).run Try.prog W0 = .ok (goInt (Nat.min 1 (n + 1 - i))) W1 := fun ty dc => by
    rw [hW1, hL1, run_copyK (P := Try.prog) W0 51 51 ty 129 3 N (i * 3) (n + 1 - i) dc ⟨g2, 0, none⟩ 1 c2 ROW 129 X Try.underlying51 hsz h00 (by rw [hX, show Nat.min 1 (n + 1 - i) = 1 by simp only [Nat.min_def]; split <;> omega]) (fun j v hj => by
      have h3 := hnews j v hj
      exact (World.cell?_of_block (by rw [add_block]; exact h0o g2 hg2w)).trans h3) (by omega) h1v]
  obtain ⟨W2, hW2⟩ : ∃ W2, W2 = W1.drew.setRow N L2.toArray := ⟨_, rfl⟩
  have hcp2 : ∀ ty dc sc, (Builtin.copy_ #[51, 51] ty #[.slice (some ⟨N, (i + 1) * 3, none⟩) (n - i) dc, .slice (some ⟨g, i * 3, none⟩) (n - i) sc]).run Try.prog W1.drew = .ok (goInt (Nat.min (n - i) (n - i))) W2 := fun ty dc sc => by
    rw [hW2, hL2, show (i + 1) * 3 = i * 3 + 3 by omega, run_copyK (P := Try.prog) W1.drew 51 51 ty 129 3 N (i * 3 + 3) (n - i) dc ⟨g, i * 3, none⟩ (n - i) sc L1.toArray 129 T2 Try.underlying51 hsz h11 (by rw [hTl, show Nat.min (n - i) (n - i) = n - i by simp only [Nat.min_def]; split <;> omega]) (fun j v hj => by
      rw [Addr.add_lit, hW1]
      refine (World.cell?_of_block (w := w) ?_).trans (hTc j v hj)
      show (W0.setRow N L1.toArray).heap[g]? = w.heap[g]?
      rw [setRow_other W0 N g _ (by omega)]
      exact h0o g hgw) (by simp only [List.size_toArray]; omega) (fun v hv => h1c v (by rw [hT2] at hv; exact List.mem_of_mem_drop hv))]
  have h22 : W2.heap[N]? = some (.cells L2.toArray 129 (0, 0)) := by rw [hW2]; exact setRow_heap W1.drew N _ _ 129 _ h11
  have FIN := Aside0.mk (show ∀ W : World, W.heap = W2.heap → W.os = W2.os → W.tape = W2.tape → W.output = W2.output → W.ownsRow base 129 3 (.slice (some ⟨N, 0, none⟩) (n + 1) G) (n + 1) (T1 ++ X ++ T2) ∧ w.grownBy W (some g) from by
    intro W e1 e2 e3 e4
    have hs : w.heap.size ≤ W.heap.size := by
      have : N < W.heap.size := by rw [e1]; exact (Array.getElem?_eq_some_iff.1 h22).1
      omega
    refine ⟨⟨?_, .inr ⟨N, G, _, rfl, by omega, by rw [e1]; exact h22, hGn, hGm, by simp only [List.size_toArray]; omega, ?_⟩⟩, ⟨by rw [e2, hW2, hW1, hW0]; rfl, by rw [e3, hW2, hW1, hW0]; rfl, by rw [e4, hW2, hW1, hW0]; rfl, hs, fun k hk hkg => ?_⟩⟩
    · simp only [List.length_append]; omega
    · have e5 : (n + 1) * 3 = i * 3 + 3 + T2.length := by omega
      rw [e5]
      exact hf1
    · have hkN : k ≠ N := by omega
      rw [e1, hW2, setRow_other W1.drew N k _ hkN]
      show W1.heap[k]? = _
      rw [hW1, setRow_other W0 N k _ hkN]
      exact h0o k hk)
  rw [← hT1, ← hT2, ← hN]
  have hcm' : cap ≤ 9223372036854775807 := by unfold maxLen at hcm; omega
  have hGm' : G ≤ 9223372036854775807 := by unfold maxLen at hGm; omega
  have HC0 := Aside0.mk hrz
  have HC1 := Aside0.mk hcp1
  have HC2 := Aside0.mk hcp2
  have hz2 : ¬ ((i : Int) = (n : Int)) := by omega
  have hz5 : (cap : Int) < (n : Int) + 1 := by omega
  have hw1 : IntKind.i64.wrap ((i : Int) + 1) = (i : Int) + 1 := by rw [IntKind.wrap_i64]; omega
  have hb1 : (0 : Int) ≤ (i : Int) + 1 := by omega
  have htn : ((i : Int) + 1).toNat = i + 1 := by omega
  have hb2 : ¬ (G = i + 1) := by omega
  have hb3 : (i : Int) ≤ (n : Int) := by omega
  have hb4 : ¬ (cap = i) := by omega
  have hb5 : ¬ (G = i) := by omega
  have hin : i ≤ n := by omega
  clear hh hnews hi0 hz0 hzs hzb hsz hX hgw hg2w hcl hT1 hT2 hT1l hTl hcell hTc hold hG hrz hz3 hz4 hRs hZ hRl hZl hN hW0 h00 h0o hL1 hL2 hf1 hf2 hf3 hRtl hW1 h11 hcp1 hW2 hcp2 h22 h1c h1v h2 hcs hcm hGm hbase hkk hik
  go_enter Try.func106, Try.ntmps106
  go_wp2_with (first
    | (at_builtin; refine Lib.wpList_append_run _ rfl _ _ _ _ rfl _ _ rfl rfl _ _ (HC0.out _) ?_)
    | (simp only [HC1.out]))
  go_region_law (refine step_copy_runQ rfl _ _ 51 51 rfl (.slice (some ⟨N, (i + 1) * 3, none⟩) (n - i) (G - (i + 1))) (.slice (some ⟨g, i * 3, none⟩) (n - i) (cap - i)) (by simp [Act.eval, Act.put]) (by simp [Act.eval, Act.put]) (HC2.out _ _ _) ?_)
  go_wp2
  go_ret
  exact ⟨_, rfl, (FIN.out _ rfl rfl rfl rfl).1, (FIN.out _ rfl rfl rfl rfl).2, .inr rfl⟩
set_option maxHeartbeats 8000000 in
theorem slices_Insert_Tenant.calls (P0_ : Nat → Prop) (u9000_ : Value) (l0 : List (S129)) (a1 : Int) (P2_ : Nat → Prop) (u9001_ : Value) (l2 : List (S129)) (r : List (S129)) (w0 w : World) (hB : Below w0.heap.size w0 w) (ho0 : Kd.R k129 129 w w0.heap.size P0_ u9000_ l0) (hp0_2 : ∀ k_, P0_ k_ → ¬ P2_ k_) (ho2 : Kd.R k129 129 w w0.heap.size P2_ u9001_ l2) (hp2_0 : ∀ k_, P2_ k_ → ¬ P0_ k_) (h : slices_Insert_Tenant.f l0 a1 l2 = some r) :
    Calls Try.prog 106 #[u9000_, .int .i64 a1, u9001_] w fun e w' => ∃ v0_ : Value, e = .returned (v0_) ∧ Kd.R k129 129 w' w0.heap.size (fun k_ => ((P0_ k_ ∨ P2_ k_) ∨ w.heap.size ≤ k_)) v0_ r ∧ Below w0.heap.size w0 w' ∧ Kept w w' (fun k_ => P0_ k_ ∨ P2_ k_) := by
  have hb0 : 0 ≤ a1 ∧ a1 ≤ (l0.length : Int) ∧ l2.length = 1 ∧ l0.length ≤ 1000000 := by
    by_cases c : 0 ≤ a1 ∧ a1 ≤ (l0.length : Int) ∧ l2.length = 1 ∧ l0.length ≤ 1000000
    · exact c
    · rw [slices_Insert_Tenant.f, if_neg c] at h
      cases h
  rw [slices_Insert_Tenant.f, if_pos hb0] at h
  obtain rfl := Option.some.inj h
  obtain ⟨q0, q1, q2, q3⟩ := hb0
  obtain ⟨i, rfl⟩ : ∃ i : Nat, a1 = (i : Int) := ⟨a1.toNat, by omega⟩
  obtain ⟨hP0, inner, hown, hrep⟩ := ho0
  obtain ⟨hP2, X, hown2, hrep2⟩ := ho2
  have hge : w0.heap.size ≤ w.heap.size := below_size hB
  have h1c := Kd.M_ones hrep (by decide)
  have h1v := Kd.M_ones hrep2 (by decide)
  rw [q2] at hown2
  rw [Int.toNat_natCast]
  have key : Calls Try.prog 106 #[u9000_, .int .i64 i, u9001_] w fun e w' => ∃ v', e = .returned v' ∧ w'.ownsRow w0.heap.size 129 3 v' (l0.length + 1) (inner.take (i * 3) ++ X ++ inner.drop (i * 3)) ∧ w.grownBy w' u9000_.ownBlock ∧ (v'.ownBlock = u9000_.ownBlock ∨ v'.ownBlock = some w.heap.size) := by
    have hform2 : ∃ g2 c2, u9001_ = .slice (some ⟨g2, 0, none⟩) 1 c2 := by
      rcases hown2.2 with ⟨_, h⟩ | ⟨g2, c2, _, hv, _⟩
      · cases h
      · exact ⟨g2, c2, hv⟩
    obtain ⟨g2, c2, rfl⟩ := hform2
    by_cases ci : i = l0.length
    · subst ci
      exact slices_Insert_Tenant_end w w0.heap.size _ u9000_ l0.length inner X hown g2 c2 hown2 h1v q3 hge
    · have ho' := hown
      rcases ho'.2 with ⟨_, h⟩ | ⟨g, cap, cur, rfl, hb, hh, hnc, hcm, hcs, ht⟩
      · exact absurd h (by omega)
      · have hne : g2 ≠ g := fun e => hp0_2 g (hP0 g rfl) (e ▸ hP2 g2 rfl)
        have ht' : cur.toList.take (l0.length * 3) = inner := ht
        rw [← ht']
        rw [← ht'] at h1c
        by_cases cr : l0.length + 1 ≤ cap
        · exact slices_Insert_Tenant_shift w w0.heap.size _ g cap l0.length i cur X hh hb cr hcm hcs h1c (by omega) q3 g2 c2 hown2 h1v hne
        · exact slices_Insert_Tenant_grow w w0.heap.size _ g cap l0.length i cur X hh hnc (by omega) hcm hcs h1c (by omega) q3 g2 c2 hown2 h1v hge
  refine key.mono ?_
  rintro e w' ⟨v', rfl, ho, hg, hat⟩
  refine ⟨v', rfl, Kd.R_ins (d := k129) rfl i (by omega) hrep hrep2 (Nat.le_refl _) ?_ (by rw [q2]; exact ho), hB.grown hg hge (fun k e => own_base hown k e), Kept.of_grown hg (Kept.refl w _) (fun k e => .inl (by first | exact .inl (hP0 k e) | exact hP0 k e))⟩
  intro k hk
  rcases hat with h | h
  · exact .inl (by first | exact .inl (hP0 k (h ▸ hk)) | exact hP0 k (h ▸ hk))
  · rw [h] at hk
    exact .inr (by have := Option.some.inj hk; omega)

end Go.Proofs.Ytjccjmjnlblhaaa.QMovedTenant
