-- Written by press.py, a program of this session, round the kit's print.py (functions and contracts; Lean checks them).
import Derived.Test.YtglhbjmagfchiaaQBestScalex0
import Derived.Test.YtglhbjmagfchiaaQBestScalex5
namespace Go.Proofs.Ytglhbjmagfchiaa.QBestScale
open Go.Proofs.Ytglhbjmagfchiaa.QWords
attribute [local go_sem high] binOp_string_geq_q binOp_string_leq_q binOp_string_gtr_q
open Go.RowKit Go.Proofs.YtglhbjmagfchiaaW.PrintWords Go.Proofs.YtglhbjmagfchiaaW.PrintLast Go.Proofs.YtglhbjmagfchiaaW.PrintMore
attribute [local go_sem] max2_int min2_int max_two min_two max_three min_three max_four min_four   -- for this text's walks alone
set_option linter.unusedVariables false
set_option linter.unusedSimpArgs false

/-! ### impl_allWithin: function 158, with its closure 206 and slices.ContainsFunc, IndexFunc (205, 232) at it -/
/-- What a list's first place is at which a test holds, from a place on: -1 if there is none. -/
def idxFrom (p : Int → Bool) (l : List Int) : Nat → Nat → Int
  | 0, _ => -1
  | d + 1, i => if p (rd l (i : Int)) = true then (i : Int) else idxFrom p l d (i + 1)
set_option maxHeartbeats 2000000 in
set_option maxRecDepth 100000 in
theorem allWithin_idx (p : Int → Bool) (g : Nat) (lb : Array Value) (eg : ∀ args w, (callFunc g args).run Try.prog w = .ok (.enter g args) w) (A0 : Option Addr) (c0 : Nat) (l0 : List Int) (w : World) (hr0 : Kd.C (Kd.int .i64) w A0 l0.length l0) (hc0 : l0.length ≤ c0) (hb : l0.length ≤ 9223372036854775807)
    (hp : ∀ (x : Int) (q : Nat), Calls Try.prog g (#[.int .i64 x] ++ lb) (w.drewN q) fun e w' => e = .returned (.bool (p x)) ∧ ∃ q', w' = (w.drewN q).drewN q') :
    Calls Try.prog 232 #[.slice A0 l0.length c0, .func (.func g) #[] lb] w fun e w' => e = .returned (.int .i64 (idxFrom p l0 l0.length 0)) ∧ ∃ q, w' = w.drewN q := by
  have HR0 := Aside0.mk hr0
  clear hr0 hc0
  have HB0 := Aside0.mk hb
  clear hb
  have HP := Aside0.mk hp
  clear hp
  go_enter Try.func232, Try.ntmps232
  go_wp2
  go_loopg [5, 8] l0.length (fun gg _ s8 wr => ∃ kk q : Nat, kk ≤ l0.length ∧ l0.length - kk ≤ gg ∧ s8 = .int .i64 kk ∧ wr = w.drewN q ∧ Aside0 (idxFrom p l0 l0.length 0 = idxFrom p l0 (l0.length - kk) kk))
  case atStart => exact ⟨0, 0, Nat.zero_le _, by omega, rfl, rfl, ⟨rfl⟩⟩
  case round =>
    obtain ⟨kk, q, hkk, hg, rfl, rfl, A⟩ := hrel
    by_cases hlt : kk < l0.length
    · have hltz : (kk : Int) < (l0.length : Int) := by omega
      obtain ⟨ad, e0, hx⟩ := Kd.at_int HR0.out (kk : Int) (by omega) hltz
      cases e0
      have B := Aside0.mk (show idxFrom p l0 (l0.length - kk) kk = if p (rd l0 (kk : Int)) = true then (kk : Int) else idxFrom p l0 (l0.length - (kk + 1)) (kk + 1) by rw [show l0.length - kk = (l0.length - (kk + 1)) + 1 by omega]; rfl)
      have HC := Aside0.mk (HP.out (rd l0 (kk : Int)))
      rw [show ((kk : Int)).toNat = kk by omega] at hx
      cases hq : p (rd l0 (kk : Int)) with
      | true =>
        have HD := Aside0.mk (show ∀ q : Nat, Calls Try.prog g (#[.int .i64 (rd l0 (kk : Int))] ++ lb) (w.drewN q) fun e w' => e = .returned (.bool true) ∧ ∃ q', w' = (w.drewN q).drewN q' from by have := HC.out; rw [hq] at this; exact this)
        clear HC HP
        go_wp2_with (go_at_fn g; refine (HD.out _).mono ?_; rintro e w' ⟨rfl, q', rfl⟩)
        go_ret
        refine ⟨?_, _, rfl⟩
        rw [A.out, B.out, hq]
        rfl
      | false =>
        have HD := Aside0.mk (show ∀ q : Nat, Calls Try.prog g (#[.int .i64 (rd l0 (kk : Int))] ++ lb) (w.drewN q) fun e w' => e = .returned (.bool false) ∧ ∃ q', w' = (w.drewN q).drewN q' from by have := HC.out; rw [hq] at this; exact this)
        clear HC HP
        go_wp2_with (go_at_fn g; refine (HD.out _).mono ?_; rintro e w' ⟨rfl, q', rfl⟩)
        go_roundg (l0.length - (kk + 1))
        case measure => omega
        case rel =>
          refine ⟨kk + 1, _, by omega, by omega, (by have h_ := HB0.out; rw [Go.IntWalk.wrap64_in _ (by omega)]; rfl), rfl, ⟨?_⟩⟩
          rw [A.out, B.out, hq]
          rfl
    · have hltz : ¬ (kk : Int) < (l0.length : Int) := by omega
      have : kk = l0.length := by omega
      subst this
      go_wp2
      go_ret
      refine ⟨?_, q, rfl⟩
      rw [A.out, Nat.sub_self]
      rfl
theorem idxFrom_nonneg (p : Int → Bool) (l : List Int) : ∀ d i : Nat, i + d = l.length → decide (idxFrom p l d i ≥ 0) = (l.drop i).any p
  | 0, i, h => by
    rw [show l.drop i = [] from List.drop_of_length_le (by omega)]
    rfl
  | d + 1, i, h => by
    rw [List.drop_eq_getElem_cons (by omega), List.any_cons, idxFrom]
    have e : rd l (i : Int) = l[i]'(by omega) := by
      show l.getD i 0 = _
      rw [List.getD_eq_getElem?_getD, List.getElem?_eq_getElem (by omega)]
      rfl
    rw [e]
    cases p l[i] with
    | true => simp
    | false =>
      have := idxFrom_nonneg p l d (i + 1) (by omega)
      simpa using this
set_option maxHeartbeats 8000000 in
set_option maxRecDepth 100000 in
theorem allWithin_cont (p : Int → Bool) (g : Nat) (lb : Array Value) (eg : ∀ args w, (callFunc g args).run Try.prog w = .ok (.enter g args) w) (A0 : Option Addr) (c0 : Nat) (l0 : List Int) (w : World) (hr0 : Kd.C (Kd.int .i64) w A0 l0.length l0) (hc0 : l0.length ≤ c0) (hb : l0.length ≤ 9223372036854775807)
    (hp : ∀ (x : Int) (q : Nat), Calls Try.prog g (#[.int .i64 x] ++ lb) (w.drewN q) fun e w' => e = .returned (.bool (p x)) ∧ ∃ q', w' = (w.drewN q).drewN q') :
    Calls Try.prog 205 #[.slice A0 l0.length c0, .func (.func g) #[] lb] w fun e w' => e = .returned (.bool (l0.any p)) ∧ ∃ q, w' = w.drewN q := by
  have HI := Aside0.mk (allWithin_idx p g lb eg A0 c0 l0 w hr0 hc0 hb hp)
  clear hp hr0 eg
  have HE := Aside0.mk (idxFrom_nonneg p l0 l0.length 0 (by omega))
  rw [List.drop_zero] at HE
  go_enter Try.func205, Try.ntmps205
  go_wp2_with (go_at_call 232; refine HI.out.mono ?_; rintro e w' ⟨rfl, q, rfl⟩)
  go_ret
  refine ⟨?_, _, rfl⟩
  first
    | rfl
    | (rw [← HE.out]; rfl)
set_option maxHeartbeats 8000000 in
set_option maxRecDepth 100000 in
theorem allWithin_clo (x a1 a2 : Int) (b1 b2 : Addr) (w : World) (h1 : w.cell? b1 = some (.int .i64 a1)) (h2 : w.cell? b2 = some (.int .i64 a2)) :
    Calls Try.prog 206 #[.int .i64 x, .pointer (some b1), .pointer (some b2)] w fun e w' => e = .returned (.bool (!decide (a1 ≤ x ∧ x ≤ a2))) ∧ ∃ q, w' = w.drewN q := by
  have HW := fun W => impl_within.calls x a1 a2 (decide (a1 ≤ x ∧ x ≤ a2)) W (by simp only [impl_within.f]; split <;> simp_all <;> omega)
  have HWA := Aside0.mk HW
  clear HW
  go_enter Try.func206, Try.ntmps206
  go_wp2_with (go_at_call 99; refine (HWA.out _).mono ?_; rintro e w' ⟨rfl, q, rfl⟩)
  go_ret
  exact ⟨by first | rfl | simp, _, rfl⟩
theorem any_all (l : List Int) (a b : Int) : (!(l.any fun x => !decide (a ≤ x ∧ x ≤ b))) = l.all fun n => decide (a ≤ n ∧ n ≤ b) := by
  induction l with
  | nil => rfl
  | cons x l ih =>
    rw [List.any_cons, List.all_cons, ← ih]
    cases decide (a ≤ x ∧ x ≤ b) <;> simp
def impl_allWithin.f (l0 : List Int) (a1 : Int) (a2 : Int) : Option (Bool) := if l0.length ≤ 9223372036854775807 then some (l0.all fun n => decide (a1 ≤ n ∧ n ≤ a2)) else none
set_option maxHeartbeats 8000000 in
set_option maxRecDepth 100000 in
theorem impl_allWithin.calls (A0 : Option Addr) (c0 : Nat) (l0 : List Int) (a1 : Int) (a2 : Int) (r : Bool) (w : World) (hr0 : Kd.C (Kd.int .i64) w A0 l0.length l0) (hc0 : l0.length ≤ c0) (h : impl_allWithin.f l0 a1 a2 = some r) :
    Calls Try.prog 158 #[.slice A0 l0.length c0, .int .i64 a1, .int .i64 a2] w fun e w' => e = .returned (.bool r) ∧ Below w.heap.size w w' := by
  have HR0 := Aside0.mk hr0
  have HC0 := Aside0.mk hc0
  clear hr0 hc0
  have hl : l0.length ≤ 9223372036854775807 := by
    by_cases hl : l0.length ≤ 9223372036854775807
    · exact hl
    · rw [impl_allWithin.f, if_neg hl] at h
      cases h
  rw [impl_allWithin.f, if_pos hl, ← any_all] at h
  obtain rfl := Option.some.inj h
  clear h
  have HL := Aside0.mk hl
  clear hl
  have HB := Aside0.mk (Below.refl w.heap.size w)
  go_enter Try.func158, Try.ntmps158
  go_wp2_with (first
    | ((with_reducible refine gate_dst (N := 4) rfl ?_); refine box_event ?hg (N := 4) ?hd (cs := #[.int .i64 a1]) (t := 2) ?hr ?_; (case hd => rfl); (case hg => rfl); (case hr => first | (go_simp; done) | (go_simp; rfl)); intro b1 hg w1 hbox hb; have B1 := Aside0.mk hbox; have n0_ := Aside0.mk (below_step HB.out hb); clear HB hg hbox hb; have HB := n0_; clear n0_)
    | ((with_reducible refine gate_dst (N := 5) rfl ?_); refine box_event ?hg (N := 5) ?hd (cs := #[.int .i64 a2]) (t := 2) ?hr ?_; (case hd => rfl); (case hg => rfl); (case hr => first | (go_simp; done) | (go_simp; rfl)); intro b2 hg w2 hbox hb; have B2 := Aside0.mk hbox; have n0_ := Aside0.mk (below_step HB.out hb); have n1_ := Aside0.mk (blk_below B1.out hb); clear HB B1 hg hbox hb; have HB := n0_; have B1 := n1_; clear n0_ n1_)
    | (go_at_call 205; refine (allWithin_cont (fun x => !decide (a1 ≤ x ∧ x ≤ a2)) 206 _ (enters_of Try.func206 (by kernel_rfl) rfl) A0 c0 l0 _ ?hr ?hc HL.out ?hp).mono ?_; (case hr => exact Kd.C_below HR0.out HB.out); (case hc => exact HC0.out); (case hp => exact fun x q => allWithin_clo x a1 a2 _ _ _ ((blk_cell B1.out 0).trans rfl) ((blk_cell B2.out 0).trans rfl)); rintro e w' ⟨rfl, q, rfl⟩))
  go_ret
  exact ⟨by first | rfl | (simp; done) | (simp [Bool.decide_and, Bool.not_and]; done), pw_below_drewN HB.out _⟩

/-! ### impl_Reading_valid: function 215 -/
def impl_Reading_valid.f (a0_0 : Int) (a0_1 : Int) : Option (Bool) := (impl_within.f a0_0 0 100000).bind fun t168 => (if t168 = true then ((impl_within.f a0_1 0 1000000000).bind fun t169 => (some t169)) else (some false))
set_option maxHeartbeats 8000000 in
set_option maxRecDepth 100000 in
theorem impl_Reading_valid.calls (a0_0 : Int) (a0_1 : Int) (r : Bool) (w : World) (h : impl_Reading_valid.f a0_0 a0_1 = some r) :
    Calls Try.prog 215 #[.agg #[.int .i64 a0_0, .int .i64 a0_1]] w fun e w' => e = .returned (.bool r) ∧ Below w.heap.size w w' := by
  have hu134 := Try.underlying134
  have HB := Aside0.mk (Below.refl w.heap.size w)
  have H : ((impl_within.f a0_0 0 100000).bind fun t168 => (if t168 = true then ((impl_within.f a0_1 0 1000000000).bind fun t169 => (some t169)) else (some false))) = some r := h
  clear h
  replace H := Option.bind_eq_some_iff.mp H
  obtain ⟨t168, A20, H⟩ := H
  replace H : (if t168 = true then ((impl_within.f a0_1 0 1000000000).bind fun t169 => (some t169)) else (some false)) = some r := H
  have A2 := Aside0.mk A20
  clear A20
  by_cases c3 : t168 = true
  · subst c3
    have H1 : ((impl_within.f a0_1 0 1000000000).bind fun t169 => (some t169)) = some r := by rw [if_pos rfl] at H; exact H
    clear H
    have H := H1
    clear H1
    replace H := Option.bind_eq_some_iff.mp H
    obtain ⟨t169, A40, H⟩ := H
    replace H : (some t169) = some r := H
    have A4 := Aside0.mk A40
    clear A40
    obtain rfl := Option.some.inj H
    go_enter Try.func215, Try.ntmps215
    go_wp2_with (first | ((with_reducible refine gate_dst (N := 1) rfl ?_); refine box_event ?hg (N := 1) ?hd (cs := #[.int .i64 a0_0, .int .i64 a0_1]) (t := 134) ?hr ?_; (case hd => rfl); (case hg => rfl); (case hr => first | (go_simp; done) | (go_simp; rfl)); intro gb167 hg w5 hbox hb; have n0_ := Aside0.mk (below_step (by repeat (first | (with_reducible first | exact HB.out | apply below_alloc | apply pw_below_drewN | apply below_drew1) | exact HB.out)) hb); have n1_ := Aside0.mk (hbox); have n2_ := Aside0.mk ((by rw [hg]; exact (below_size (by repeat (first | (with_reducible first | exact HB.out | apply below_alloc | apply pw_below_drewN | apply below_drew1) | exact HB.out))) : w.heap.size ≤ gb167)); have n3_ := Aside0.mk ((by rw [hg]; exact (below_size (by repeat (first | (with_reducible first | exact HB.out | apply below_alloc | apply pw_below_drewN | apply below_drew1) | exact HB.out))) : w.heap.size ≤ gb167)); clear HB; have HB := n0_; have BK167 := n1_; have GW167 := n2_; have GE167 := n3_; clear n0_ n1_ n2_ n3_; clear hb hbox hg; have hcz6_0 : w5.cell? ⟨gb167, 0, none⟩ = some (.int .i64 a0_0) := (blk_cell BK167.out 0).trans rfl; have hcz6_1 : w5.cell? ⟨gb167, 1, none⟩ = some (.int .i64 a0_1) := (blk_cell BK167.out 1).trans rfl; have hfz6_0 := blk_frozen BK167.out 0; have hfz6_1 := blk_frozen BK167.out 1) | ((with_reducible refine gate_callee (f := 99) rfl ?_); refine goesL_ (some 5) rfl rfl Try.func99 (by kernel_rfl) rfl #[.int .i64 a0_0, .int .i64 0, .int .i64 100000] rfl (by (try simp only [List.map_toArray, List.map_cons, List.map_nil]); first | done | rfl | (simp only [List.length_drop, List.length_take]; rfl)) ?_; (with_reducible refine (impl_within.calls a0_0 0 100000 true _ A2.out).mono ?_); rintro e w' ⟨rfl, ⟨nd, rfl⟩⟩; refine ⟨_, rfl, ?_⟩) | (go_at_call 99; (first | (with_reducible refine (impl_within.calls a0_1 0 1000000000 t169 _ A4.out).mono ?_) | ((try simp only [Go.IntWalk.i64_left]); (with_reducible refine (impl_within.calls a0_1 0 1000000000 t169 _ A4.out).mono ?_))); rintro e w' ⟨rfl, ⟨nd, rfl⟩⟩))
    go_ret
    exact ⟨by first | rfl | (simp [errW_none, errW_some] <;> rfl) | (simp [*, errW_none, errW_some] <;> rfl), by repeat (first | (with_reducible first | exact HB.out | apply below_alloc | apply pw_below_drewN | apply below_drew1 | refine below_set ?_ GE167.out) | exact HB.out)⟩
  · replace c3 := Bool.eq_false_iff.mpr c3
    subst c3
    have H1 : (some false) = some r := by rw [if_neg (show ¬ (false = true) by decide)] at H; exact H
    clear H
    have H := H1
    clear H1
    obtain rfl := Option.some.inj H
    go_enter Try.func215, Try.ntmps215
    go_wp2_with (first | ((with_reducible refine gate_dst (N := 1) rfl ?_); refine box_event ?hg (N := 1) ?hd (cs := #[.int .i64 a0_0, .int .i64 a0_1]) (t := 134) ?hr ?_; (case hd => rfl); (case hg => rfl); (case hr => first | (go_simp; done) | (go_simp; rfl)); intro gb167 hg w7 hbox hb; have n0_ := Aside0.mk (below_step (by repeat (first | (with_reducible first | exact HB.out | apply below_alloc | apply pw_below_drewN | apply below_drew1) | exact HB.out)) hb); have n1_ := Aside0.mk (hbox); have n2_ := Aside0.mk ((by rw [hg]; exact (below_size (by repeat (first | (with_reducible first | exact HB.out | apply below_alloc | apply pw_below_drewN | apply below_drew1) | exact HB.out))) : w.heap.size ≤ gb167)); have n3_ := Aside0.mk ((by rw [hg]; exact (below_size (by repeat (first | (with_reducible first | exact HB.out | apply below_alloc | apply pw_below_drewN | apply below_drew1) | exact HB.out))) : w.heap.size ≤ gb167)); clear HB; have HB := n0_; have BK167 := n1_; have GW167 := n2_; have GE167 := n3_; clear n0_ n1_ n2_ n3_; clear hb hbox hg; have hcz8_0 : w7.cell? ⟨gb167, 0, none⟩ = some (.int .i64 a0_0) := (blk_cell BK167.out 0).trans rfl; have hcz8_1 : w7.cell? ⟨gb167, 1, none⟩ = some (.int .i64 a0_1) := (blk_cell BK167.out 1).trans rfl; have hfz8_0 := blk_frozen BK167.out 0; have hfz8_1 := blk_frozen BK167.out 1) | ((with_reducible refine gate_callee (f := 99) rfl ?_); refine goesL_ (some 5) rfl rfl Try.func99 (by kernel_rfl) rfl #[.int .i64 a0_0, .int .i64 0, .int .i64 100000] rfl (by (try simp only [List.map_toArray, List.map_cons, List.map_nil]); first | done | rfl | (simp only [List.length_drop, List.length_take]; rfl)) ?_; (with_reducible refine (impl_within.calls a0_0 0 100000 false _ A2.out).mono ?_); rintro e w' ⟨rfl, ⟨nd, rfl⟩⟩; refine ⟨_, rfl, ?_⟩))
    go_ret
    exact ⟨by first | rfl | (simp [errW_none, errW_some] <;> rfl) | (simp [*, errW_none, errW_some] <;> rfl), by repeat (first | (with_reducible first | exact HB.out | apply below_alloc | apply pw_below_drewN | apply below_drew1 | refine below_set ?_ GE167.out) | exact HB.out)⟩

end Go.Proofs.Ytglhbjmagfchiaa.QBestScale
