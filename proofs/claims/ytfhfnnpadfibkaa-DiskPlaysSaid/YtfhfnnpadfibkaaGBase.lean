/-
  Small laws for printed and given texts: min and max of strings.
-/
import Derived.RowKit
import Derived.Lib.LazyBuf
import Derived.Lib.Hide
import Derived.WalkKit
namespace Go.Proofs.Ytfhfnnpadfibkaa
open Go.RowKit

/-- Go's min and max of two strings. -/
def minB (x y : ByteArray) : ByteArray := if Op.bytesLess y.toList x.toList = true then y else x
def maxB (x y : ByteArray) : ByteArray := if Op.bytesLess x.toList y.toList = true then y else x
theorem less_or_eq : ∀ x y : List UInt8, (Op.bytesLess x y || x == y) = !Op.bytesLess y x
  | [], [] => rfl
  | [], _ :: _ => rfl
  | _ :: _, [] => by simp [Op.bytesLess]
  | a :: x, b :: y => by
    have ih := less_or_eq x y
    simp only [Op.bytesLess, List.cons_beq_cons]
    by_cases h1 : a < b
    · have h2 : ¬ b < a := fun h => by have := UInt8.lt_iff_toNat_lt.1 h1; have := UInt8.lt_iff_toNat_lt.1 h; omega
      have h3 : ¬ b = a := fun h => by subst h; exact UInt8.lt_irrefl _ h1
      simp [h1, h2, h3]
    · by_cases h2 : b < a
      · have h3 : ¬ a = b := fun h => by subst h; exact UInt8.lt_irrefl _ h2
        simp [h1, h2, h3]
      · have h3 : a = b := by
          apply UInt8.toNat_inj.1
          have g1 : ¬ a.toNat < b.toNat := fun h => h1 (UInt8.lt_iff_toNat_lt.2 h)
          have g2 : ¬ b.toNat < a.toNat := fun h => h2 (UInt8.lt_iff_toNat_lt.2 h)
          omega
        subst h3
        simp [h1, ih]
theorem max2_str (x y : ByteArray) : Builtin.max2 (.string x) (.string y) = pure (.string (maxB x y)) := by
  by_cases h : Op.bytesLess x.toList y.toList = true <;> simp [Builtin.max2, Op.stringOp, asBool, maxB, h]
theorem min2_str (x y : ByteArray) : Builtin.min2 (.string x) (.string y) = pure (.string (minB x y)) := by
  simp only [Builtin.min2, Op.stringOp, asBool, minB, less_or_eq]
  by_cases h : Op.bytesLess y.toList x.toList = true <;> simp [h]
theorem leq_str (t : TypeId) (a b : ByteArray) : binOp .leq t (.string a) (.string b) = pure (.bool !(Op.bytesLess b.toList a.toList)) := by simp [binOp, Op.stringOp, less_or_eq]
theorem gtr_str (t : TypeId) (a b : ByteArray) : binOp .gtr t (.string a) (.string b) = pure (.bool (Op.bytesLess b.toList a.toList)) := by simp [binOp, Op.stringOp, less_or_eq]
theorem geq_str (t : TypeId) (a b : ByteArray) : binOp .geq t (.string a) (.string b) = pure (.bool !(Op.bytesLess a.toList b.toList)) := by simp [binOp, Op.stringOp]
end Go.Proofs.Ytfhfnnpadfibkaa
