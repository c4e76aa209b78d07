/- Comparisons of strings as the printed functions spell them: 'a > b' is 'b < a', 'a <= b' is 'not b < a', 'a >= b' is 'not a < b'. -/
import Derived.Laws.Strings
import Derived.Laws.Small
namespace Go
theorem bytesLess_tri : ∀ a b : List UInt8, (!(Op.bytesLess a b || a == b)) = Op.bytesLess b a
  | [], [] => rfl
  | [], _ :: _ => rfl
  | _ :: _, [] => rfl
  | x :: a, y :: b => by
    have ih := bytesLess_tri a b
    simp only [Op.bytesLess]
    by_cases h : x = y
    · subst h
      rw [← ih]
      cases Op.bytesLess a b <;> simp
    · have h' : ¬ y = x := fun e => h e.symm
      by_cases hl : x < y
      · have : ¬ y < x := by simp only [UInt8.lt_iff_toNat_lt] at *; omega
        simp [hl, this, h']
      · have : y < x := by
          have hne : x.toNat ≠ y.toNat := fun e => h (UInt8.toNat_inj.mp e)
          simp only [UInt8.lt_iff_toNat_lt] at *; omega
        simp [hl, this, h]
theorem bytesLess_le (a b : List UInt8) : (Op.bytesLess a b || a == b) = !(Op.bytesLess b a) := by
  rw [← bytesLess_tri a b, Bool.not_not]
@[go_sem] theorem binOp_string_gtr' (t : TypeId) (a b : ByteArray) : binOp .gtr t (.string a) (.string b) = pure (.bool (Op.bytesLess b.toList a.toList)) := by
  rw [← bytesLess_tri a.toList b.toList]; simp [binOp, Op.stringOp]
@[go_sem] theorem binOp_string_leq' (t : TypeId) (a b : ByteArray) : binOp .leq t (.string a) (.string b) = pure (.bool !(Op.bytesLess b.toList a.toList)) := by
  rw [← bytesLess_le a.toList b.toList]; simp [binOp, Op.stringOp]
@[go_sem] theorem binOp_string_geq' (t : TypeId) (a b : ByteArray) : binOp .geq t (.string a) (.string b) = pure (.bool !(Op.bytesLess a.toList b.toList)) := by simp [binOp, Op.stringOp]
end Go
