/- Words of this session: how the walk reads <=, > and >= on strings, in the form in which the printed functions tell them. Conditions: none. -/
import Derived.WalkKit
import Derived.Laws.MakeOwn
import Derived.Test.YtidfchlgdmnopaaDoorWWords
namespace Go.Proofs.YtidfchlgdmnopaaDoor.QWords
open Go.RowKit
theorem u8_lt (a b : UInt8) : (a < b) = (a.toNat < b.toNat) := propext UInt8.lt_iff_toNat_lt
theorem bytesLess_turn : ∀ a b : List UInt8, (Op.bytesLess a b || a == b) = !(Op.bytesLess b a)
  | [], [] => by simp [Op.bytesLess]
  | [], b :: y => by simp [Op.bytesLess]
  | a :: x, [] => by simp [Op.bytesLess]
  | a :: x, b :: y => by
    have ih := bytesLess_turn x y
    have hinj : a.toNat = b.toNat ↔ a = b := ⟨fun h => UInt8.toNat_inj.mp h, fun h => by rw [h]⟩
    by_cases hab : a = b
    · subst hab
      simp [Op.bytesLess] at ih ⊢
      exact ih
    · have hn : ¬ a.toNat = b.toNat := fun h => hab (hinj.mp h)
      have hba : ¬ b = a := fun h => hab h.symm
      have e1 : (a :: x == b :: y) = false := by simp [hab]
      have e2 : (a == b) = false := by simp [hab]
      have e3 : (b == a) = false := by simp [hba]
      rw [e1]
      simp only [Op.bytesLess, e2, e3, Bool.false_and, Bool.or_false]
      by_cases hl : a.toNat < b.toNat
      · have f1 : decide (a < b) = true := by simp [u8_lt, hl]
        have f2 : decide (b < a) = false := by rw [decide_eq_false_iff_not, u8_lt]; omega
        rw [f1, f2]; rfl
      · have f1 : decide (a < b) = false := by simp only [u8_lt, decide_eq_false_iff_not]; exact hl
        have f2 : decide (b < a) = true := by rw [decide_eq_true_iff, u8_lt]; omega
        rw [f1, f2]; rfl
theorem binOp_string_geq_q (t : TypeId) (a b : ByteArray) : binOp .geq t (.string a) (.string b) = pure (.bool !(Op.bytesLess a.toList b.toList)) := by simp [binOp, Op.stringOp]
theorem binOp_string_leq_q (t : TypeId) (a b : ByteArray) : binOp .leq t (.string a) (.string b) = pure (.bool !(Op.bytesLess b.toList a.toList)) := by
  have h := bytesLess_turn a.toList b.toList
  simp only [binOp, Op.stringOp, ← h]
theorem binOp_string_gtr_q (t : TypeId) (a b : ByteArray) : binOp .gtr t (.string a) (.string b) = pure (.bool (Op.bytesLess b.toList a.toList)) := by
  have h := bytesLess_turn a.toList b.toList
  have h2 : Op.bytesLess b.toList a.toList = !(Op.bytesLess a.toList b.toList || a.toList == b.toList) := by rw [h]; simp
  simp only [binOp, Op.stringOp, h2]
section
set_option linter.unusedVariables false
open Go.Proofs.YtidfchlgdmnopaaDoorW.PrintWords
variable {P : Program} {ops : Array Oper} {rest : List Oper} {o : Oper} {a : Act} {Q : Exit → Act → World → Prop} {α : Type}
/-- make([]T, 0, n): an empty row of one's own. -/
theorem Kd.R_make0 (d : Kd α) {w0 W : World} (base e : Nat) (hgd : o.guard = none) {N : Tmp} (hd : o.dst = some N) (t : TypeId) (x y : Operand) (ho : o.op = .makeSlice t x y) (n : Int) (hx : a.eval x = .int .i64 0) (hy : a.eval y = .int .i64 n)
    (ht : P.underlying t = some (.slice e)) (z : Value) (bytes : Nat) (hinfo : (P.info? e).map (fun i => (i.zero, i.size, i.bytes)) = some (some z, d.sz, bytes)) (hz : z.cells.size = d.sz) (hs0 : 0 < d.sz) (hb0 : 0 < bytes)
    (z0 : α) {ok okp : Nat → Prop} (hzero : d.M W base okp z0 z.cells.toList) (hok : ∀ k, okp k → ok k) (hfresh : ok W.heap.size) (h0 : 0 ≤ n) (hl : n.toNat * bytes ≤ 281474976710656) (HB : Below base w0 W) (hbase : base ≤ W.heap.size)
    (h : ∀ v1 w1, d.R e w1 base ok v1 [] → Below base w0 w1 → W.grownBy w1 none → (∃ b, v1.ownBlock = some b ∧ W.heap.size ≤ b) → wpList P ops Q rest (a.put o.dst v1) w1) : wpList P ops Q (o :: rest) a W := by
  obtain ⟨m, rfl⟩ := Int.eq_ofNat_of_zero_le h0
  simp only [Int.toNat_natCast] at hl
  obtain ⟨i0, hi, hzz⟩ := Option.map_eq_some_iff.1 hinfo
  simp only [Prod.mk.injEq] at hzz
  obtain ⟨hz0, hz1, hz2⟩ := hzz
  have hm : m ≤ 281474976710656 := Nat.le_trans (Nat.le_mul_of_pos_right _ hb0) hl
  have hr := run_make (P := P) W t e i0 z ht hi hz0 .i64 .i64 (0 : Int) (m : Int) (by omega) (by omega)
    (by
      have h3 : ((i0.bytes * m : Nat) : Int) ≤ 281474976710656 := by rw [hz2, Nat.mul_comm]; omega
      rwa [Int.natCast_mul] at h3) (by omega)
  simp only [Int.toNat_natCast] at hr
  rw [hz1] at hr
  have hr2 : (Instr.makeSlice t (.int .i64 0) (.int .i64 (m : Int))).run P W = .ok (.slice (some ⟨W.heap.size, 0, none⟩) 0 m) (W.alloc (.cells (madeCells z.cells (m * d.sz)) e)) := by simpa using hr
  refine Kd.event_run hgd (v := .slice (some ⟨W.heap.size, 0, none⟩) 0 m) (w1 := W.alloc (.cells (madeCells z.cells (m * d.sz)) e)) (by simp [execOp, ho, hx, hy, hr2, Result.andThen]) (h _ _ ⟨fun k hk => ?_, [], ?_, Reps.none _ _⟩ (HB.alloc hbase _) (World.grownBy_alloc W _ none) ⟨W.heap.size, by simp [Value.ownBlock], Nat.le_refl _⟩)
  · have : W.heap.size = k := by simpa [Value.ownBlock] using hk
    subst this
    exact hfresh
  · exact World.ownsRow_made W _ m hbase (by unfold maxLen; omega) (by simp [size_madeCells])
end
end Go.Proofs.YtidfchlgdmnopaaDoor.QWords
