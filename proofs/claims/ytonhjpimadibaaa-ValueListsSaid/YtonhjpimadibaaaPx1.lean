-- Written by this session's own program (wip/pp) out of the translation.
import Derived.Test.YtonhjpimadibaaaPx0
namespace Go.Proofs.Ytonhjpimadibaaa.P
open Go.RowKit Go.Proofs.YtonhjpimadibaaaW.PrintWords Go.Proofs.YtonhjpimadibaaaW.PrintLast Go.Proofs.YtonhjpimadibaaaW.PrintMore
attribute [local go_sem] max2_int min2_int max_two min_two max_three min_three max_four min_four   -- for this text's walks alone
set_option linter.unusedVariables false
set_option linter.unusedSimpArgs false

/-! ### cobwebref03_bits: function 9 -/
def cobwebref03_bits.f (a0 : Nat) : Option (Int) := some ((a0 : Nat) : Int)
set_option maxHeartbeats 8000000 in
set_option maxRecDepth 100000 in
theorem cobwebref03_bits.calls (a0 : Nat) (r : Int) (w : World) (h : cobwebref03_bits.f a0 = some r) :
    Calls Try.prog 9 #[.float .f64 a0] w fun e w' => e = .returned (.int .u64 r) ∧ Drawn0 w w' := by
  have H : (some ((a0 : Nat) : Int)) = some r := h
  clear h
  obtain rfl := Option.some.inj H
  go_enter Try.func9, Try.ntmps9
  go_wp2
  go_ret
  exact ⟨by first | rfl | (simp; done) | (simp [*]; done), by repeat (first | exact Drawn0.refl _ | apply Drawn0.step)⟩

/-! ### cobwebref02_Canon: function 13 -/
def cobwebref02_Canon.f (a0 : Int) : Option (Int) := if (Int.tmod a0 9223372036854775808) > 9218868437227405312 then (some 9221120237041090560) else (if a0 = 9223372036854775808 then (some 0) else (some a0))
set_option maxHeartbeats 8000000 in
set_option maxRecDepth 100000 in
theorem cobwebref02_Canon.calls (a0 : Int) (r : Int) (w : World) (h : cobwebref02_Canon.f a0 = some r) :
    Calls Try.prog 13 #[.int .u64 a0] w fun e w' => e = .returned (.int .u64 r) ∧ Drawn0 w w' := by
  have H : (if (Int.tmod a0 9223372036854775808) > 9218868437227405312 then (some 9221120237041090560) else (if a0 = 9223372036854775808 then (some 0) else (some a0))) = some r := h
  clear h
  by_cases c2 : (Int.tmod a0 9223372036854775808) > 9218868437227405312
  · rw [if_pos c2] at H
    have c2b0 : decide (9218868437227405312 < (Int.tmod a0 9223372036854775808)) = true := decide_eq_true c2
    clear c2
    obtain rfl := Option.some.inj H
    go_enter Try.func13, Try.ntmps13
    go_wp2
    go_ret
    exact ⟨by first | rfl | (simp; done) | (simp [*]; done), by repeat (first | exact Drawn0.refl _ | apply Drawn0.step)⟩
  · rw [if_neg c2] at H
    have c2b0 : decide (9218868437227405312 < (Int.tmod a0 9223372036854775808)) = false := decide_eq_false c2
    clear c2
    by_cases c3 : a0 = 9223372036854775808
    · rw [if_pos c3] at H
      have c3b0 : (a0 == 9223372036854775808) = true := beq_iff_eq.mpr c3
      have c3b1 : (a0 != 9223372036854775808) = false := bne_eq_false_iff_eq.mpr c3
      clear c3
      obtain rfl := Option.some.inj H
      go_enter Try.func13, Try.ntmps13
      go_wp2
      go_ret
      exact ⟨by first | rfl | (simp; done) | (simp [*]; done), by repeat (first | exact Drawn0.refl _ | apply Drawn0.step)⟩
    · rw [if_neg c3] at H
      have c3b0 : (a0 == 9223372036854775808) = false := beq_eq_false_iff_ne.mpr c3
      have c3b1 : (a0 != 9223372036854775808) = true := bne_iff_ne.mpr c3
      obtain rfl := Option.some.inj H
      go_enter Try.func13, Try.ntmps13
      go_wp2
      go_ret
      exact ⟨by first | rfl | (simp; done) | (simp [*]; done), by repeat (first | exact Drawn0.refl _ | apply Drawn0.step)⟩

end Go.Proofs.Ytonhjpimadibaaa.P
