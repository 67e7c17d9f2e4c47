-- ValueLists: the plain law of atoms and lists.
import Derived.Test.YtonhjpimadibaaaPA
import Derived.Test.YtonhjpimadibaaaVL1
namespace Go.Proofs.Ytonhjpimadibaaa.P
open Go.RowKit Go.Proofs.YtonhjpimadibaaaW.PrintWords Go.Proofs.YtonhjpimadibaaaW.PrintLast Go.Proofs.Ytonhjpimadibaaa.F64

def AW (x : S25) : Prop := x.f2 < 18446744073709551616
def Vd (x : S25) : Prop := value_item_valid.f x.f0 x.f1 x.f2 x.f3 = some true

theorem canon_self {a : Nat} (h : a < 18446744073709551616) (he : (if 9218868437227405312 < rg a then (9221120237041090560 : Int) else if a = 9223372036854775808 then 0 else (a : Int)) = (a : Int)) :
    (if 9218868437227405312 < rg a then 9221120237041090560 else if rg a = 0 then 0 else a) = a := by
  by_cases h1 : 9218868437227405312 < rg a
  · rw [if_pos h1] at he ⊢; omega
  · rw [if_neg h1] at he ⊢
    by_cases h2 : a = 9223372036854775808
    · rw [if_pos h2] at he; omega
    · rw [if_neg h2] at he
      by_cases h3 : rg a = 0
      · rw [if_pos h3]; unfold rg at h3; omega
      · rw [if_neg h3]
theorem atom_ref (k : Nat) (a0 a1 : Int) (a2 : Nat) (a3 : ByteArray) (h : a2 < 18446744073709551616) : ∃ r, cobwebref03_atom.f (k + 1) a0 a1 a2 a3 = some r ∧ (r = true → value_item_valid.f a0 a1 a2 a3 = some true) := by
  have hc := Canon_eq h
  have hr := RCanon_eq h
  have hs := canon_self h
  have hk : a0 < 0 ∨ 5 < a0 ∨ a0 = 0 ∨ a0 = 1 ∨ a0 = 2 ∨ a0 = 3 ∨ a0 = 4 ∨ a0 = 5 := by omega
  generalize (if 9218868437227405312 < rg a2 then 9221120237041090560 else if rg a2 = 0 then 0 else a2) = C at hc hs
  generalize (if 9218868437227405312 < rg a2 then (9221120237041090560 : Int) else if a2 = 9223372036854775808 then 0 else (a2 : Int)) = R at hr hs
  simp only [cobwebref03_atom.f, cobwebref03_atom.j0, value_item_valid.f, value_item_is.f, cobwebref03_bits.f, value_item_bits.f, Option.bind_some, hc, hr]
  rcases hk with hk | hk | hk | hk | hk | hk | hk | hk
  · simp [hk]
  · have : ¬ a0 < 0 := by omega
    simp [hk, this]
  all_goals
    subst hk
    by_cases ha : a1 = 0 <;> by_cases hb : a1 = 1 <;> by_cases hd : (a2 : Int) = 0 <;> by_cases he : a3.toList.isEmpty = true <;> by_cases hf : R = (a2 : Int) <;> simp_all
theorem w64 {n : Int} (h : -9223372036854775808 ≤ n ∧ n ≤ 9223372036854775807) : wrap64 n = n := by unfold wrap64; omega
theorem Or_eq (k : Nat) (a b : Int) : cmp_Or_int.f (k + 3) [a, b] = some (if a = 0 then b else a) := by
  unfold cmp_Or_int.f
  rw [cmp_Or_int.l0]
  have w1 : wrap64 (0 + 1) = 1 := w64 (by omega)
  have w2 : wrap64 (1 + 1) = 2 := w64 (by omega)
  have r0 : rd [a, b] 0 = a := rfl
  have r1 : rd [a, b] 1 = b := rfl
  simp only [List.length_cons, List.length_nil, r0, w1]
  by_cases ha : a = 0
  · rw [if_pos (by decide), if_pos (by decide), if_pos (by decide), if_pos ha, if_pos ha, cmp_Or_int.l0]
    simp only [List.length_cons, List.length_nil, r1, w2]
    rw [if_pos (by decide), if_pos (by decide), if_pos (by decide)]
    by_cases hb : b = 0
    · rw [if_pos hb, cmp_Or_int.l0, if_neg (by decide), hb]
    · rw [if_neg hb]
  · rw [if_pos (by decide), if_pos (by decide), if_pos (by decide), if_neg ha, if_neg ha]
theorem cmpi (a b : Int) : cmp_Compare_int.f a b = some (if a < b then -1 else if b < a then 1 else 0) := by
  unfold cmp_Compare_int.f cmp_isNaN_int.f
  simp only [Option.bind_some, bne_self_eq_false, Bool.false_eq_true, if_false, gt_iff_lt]
  repeat' split
  all_goals rfl
theorem cmpi_self (a : Int) : cmp_Compare_int.f a a = some 0 := by rw [cmpi, if_neg (by omega), if_neg (by omega)]
theorem bytesLess_irr : ∀ l : List UInt8, Op.bytesLess l l = false
  | [] => rfl
  | x :: l => by
    have ih := bytesLess_irr l
    simp [Op.bytesLess, ih]
theorem cmps_self (a : ByteArray) : cmp_Compare_string.f a a = some 0 := by
  unfold cmp_Compare_string.f cmp_isNaN_string.f
  simp [bytesLess_irr]
theorem cmps_total (a b : ByteArray) : ∃ r, cmp_Compare_string.f a b = some r := by
  unfold cmp_Compare_string.f cmp_isNaN_string.f
  simp only [Option.bind_some]
  repeat' split
  all_goals exact ⟨_, rfl⟩
theorem exactly_total (k : Nat) (x y : S25) : ∃ r, value_exactly.f (k + 3) x.f0 x.f1 x.f2 x.f3 y.f0 y.f1 y.f2 y.f3 = some r := by
  obtain ⟨r1, h1⟩ := CompareInt_total k x.f1 y.f2
  obtain ⟨r2, h2⟩ := CompareInt_total k y.f1 x.f2
  obtain ⟨r3, h3⟩ := Compare_total (k + 1) x.f2 y.f2
  simp only [value_exactly.f, value_exactly.j0, cmpi, h1, h2, h3, Option.bind_some]
  repeat' split
  all_goals exact ⟨_, rfl⟩
theorem exactly_self (k : Nat) (x : S25) : value_exactly.f (k + 3) x.f0 x.f1 x.f2 x.f3 x.f0 x.f1 x.f2 x.f3 = some 0 := by
  have h3 := Compare_self (k + 1) x.f2
  simp only [value_exactly.f, value_exactly.j0, cmpi_self, h3, Option.bind_some]
  by_cases h : x.f0 = 2
  · simp [h]
  · simp [h]
theorem rank_total (a b : Int) (c : Nat) (d : ByteArray) : ∃ r, value_item_rank.f a b c d = some r := by
  unfold value_item_rank.f
  split <;> exact ⟨_, rfl⟩
theorem number_total (a b : Int) (c : Nat) (d : ByteArray) : ∃ r, value_item_number.f a b c d = some r := by
  unfold value_item_number.f
  split <;> exact ⟨_, rfl⟩
theorem atoms_total (k : Nat) (x y : S25) : ∃ r, value_atoms.f (k + 3) x.f0 x.f1 x.f2 x.f3 y.f0 y.f1 y.f2 y.f3 = some r := by
  obtain ⟨r1, h1⟩ := exactly_total k x y
  obtain ⟨r2, h2⟩ := cmps_total x.f3 y.f3
  obtain ⟨r3, h3⟩ := rank_total x.f0 x.f1 x.f2 x.f3
  obtain ⟨r4, h4⟩ := rank_total y.f0 y.f1 y.f2 y.f3
  obtain ⟨r5, h5⟩ := number_total x.f0 x.f1 x.f2 x.f3
  unfold value_atoms.f
  rw [h1, h2, h3, h4, h5]
  simp only [Option.bind_some, cmpi, Or_eq]
  by_cases a : r3 = r4
  · rw [if_pos a]
    by_cases b : r5 = true
    · rw [if_pos b]; exact ⟨_, rfl⟩
    · rw [if_neg b]; exact ⟨_, rfl⟩
  · rw [if_neg a]; exact ⟨_, rfl⟩
theorem atoms_self (k : Nat) (x : S25) : value_atoms.f (k + 3) x.f0 x.f1 x.f2 x.f3 x.f0 x.f1 x.f2 x.f3 = some 0 := by
  have h1 := exactly_self k x
  simp only [value_atoms.f, value_item_rank.f, value_item_number.f, cmpi_self, cmps_self, h1, Or_eq]
  by_cases h : x.f0 = 3 <;> by_cases h' : x.f0 = 2 <;> simp_all
end Go.Proofs.Ytonhjpimadibaaa.P
