/- Words of this session: how the walk reads <=, > and >= on strings, in the form in which the printed functions tell them. Conditions: none. -/
import Derived.WalkKit
namespace Go.Proofs.Ytnhkamfccoppbaa.QWords
open Go.RowKit
theorem u8_lt (a b : UInt8) : (a < b) = (a.toNat < b.toNat) := propext UInt8.lt_iff_toNat_lt
theorem bytesLess_turn : ∀ a b : List UInt8, (Op.bytesLess a b || a == b) = !(Op.bytesLess b a)
  | [], [] => by simp [Op.bytesLess]
  | [], b :: y => by simp [Op.bytesLess]
  | a :: x, [] => by simp [Op.bytesLess]
  | a :: x, b :: y => by
    have ih := bytesLess_turn x y
    have hinj : a.toNat = b.toNat ↔ a = b := ⟨fun h => UInt8.toNat_inj.mp h, fun h => by rw [h]⟩
    by_cases hab : a = b
    · subst hab
      simp [Op.bytesLess] at ih ⊢
      exact ih
    · have hn : ¬ a.toNat = b.toNat := fun h => hab (hinj.mp h)
      have hba : ¬ b = a := fun h => hab h.symm
      have e1 : (a :: x == b :: y) = false := by simp [hab]
      have e2 : (a == b) = false := by simp [hab]
      have e3 : (b == a) = false := by simp [hba]
      rw [e1]
      simp only [Op.bytesLess, e2, e3, Bool.false_and, Bool.or_false]
      by_cases hl : a.toNat < b.toNat
      · have f1 : decide (a < b) = true := by simp [u8_lt, hl]
        have f2 : decide (b < a) = false := by rw [decide_eq_false_iff_not, u8_lt]; omega
        rw [f1, f2]; rfl
      · have f1 : decide (a < b) = false := by simp only [u8_lt, decide_eq_false_iff_not]; exact hl
        have f2 : decide (b < a) = true := by rw [decide_eq_true_iff, u8_lt]; omega
        rw [f1, f2]; rfl
theorem binOp_string_geq_q (t : TypeId) (a b : ByteArray) : binOp .geq t (.string a) (.string b) = pure (.bool !(Op.bytesLess a.toList b.toList)) := by simp [binOp, Op.stringOp]
theorem binOp_string_leq_q (t : TypeId) (a b : ByteArray) : binOp .leq t (.string a) (.string b) = pure (.bool !(Op.bytesLess b.toList a.toList)) := by
  have h := bytesLess_turn a.toList b.toList
  simp only [binOp, Op.stringOp, ← h]
theorem binOp_string_gtr_q (t : TypeId) (a b : ByteArray) : binOp .gtr t (.string a) (.string b) = pure (.bool (Op.bytesLess b.toList a.toList)) := by
  have h := bytesLess_turn a.toList b.toList
  have h2 : Op.bytesLess b.toList a.toList = !(Op.bytesLess a.toList b.toList || a.toList == b.toList) := by rw [h]; simp
  simp only [binOp, Op.stringOp, h2]
end Go.Proofs.Ytnhkamfccoppbaa.QWords
