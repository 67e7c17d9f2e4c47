-- ValueLists: the plain law of atoms.
import Derived.Test.YtonhjpimadibaaaF64
import Derived.Test.YtonhjpimadibaaaPx8
namespace Go.Proofs.Ytonhjpimadibaaa.P
open Go.RowKit Go.Proofs.YtonhjpimadibaaaW.PrintWords Go.Proofs.YtonhjpimadibaaaW.PrintLast Go.Proofs.Ytonhjpimadibaaa.F64

theorem cmp_int (a b : Int) : (compare a b == Ordering.lt) = decide (a < b) ∧ (compare a b == Ordering.eq) = decide (a = b) := by
  simp only [compare, compareOfLessAndEq]
  by_cases h : a < b
  · have h2 : a ≠ b := by omega
    simp [h, h2]
  · by_cases h2 : a = b
    · simp [h2]
    · simp [h, h2]
theorem flt_eq {a b : Nat} (ha : rg a ≤ 9218868437227405312) (hb : rg b ≤ 9218868437227405312) : flt a b = decide (key a < key b) := by
  unfold flt
  rw [order_eq ha hb]
  exact (cmp_int _ _).1
theorem feq_eq {a b : Nat} (ha : rg a ≤ 9218868437227405312) (hb : rg b ≤ 9218868437227405312) : feq a b = decide (key a = key b) := by
  unfold feq
  rw [order_eq ha hb]
  exact (cmp_int _ _).2
theorem fle_eq {a b : Nat} (ha : rg a ≤ 9218868437227405312) (hb : rg b ≤ 9218868437227405312) : fle a b = decide (key a ≤ key b) := by
  have h1 := flt_eq ha hb
  have h2 := feq_eq ha hb
  unfold flt at h1
  unfold feq at h2
  unfold fle
  rw [h1, h2]
  by_cases h : key a < key b
  · simp [h]; omega
  · by_cases h' : key a = key b
    · simp [h']
    · simp [h, h']; omega
theorem feq_nan {a b : Nat} (h : 9218868437227405312 < rg a ∨ 9218868437227405312 < rg b) : feq a b = false ∧ flt a b = false ∧ fle a b = false := by
  unfold feq flt fle
  rw [order_nan h]
  exact ⟨rfl, rfl, rfl⟩
theorem feq_self (a : Nat) : feq a a = decide (rg a ≤ 9218868437227405312) := by
  by_cases h : rg a ≤ 9218868437227405312
  · rw [feq_eq h h]; simp [h]
  · rw [(feq_nan (.inl (by omega))).1]; simp [h]
theorem flt_irr (a : Nat) : flt a a = false := by
  by_cases h : rg a ≤ 9218868437227405312
  · rw [flt_eq h h]; simp
  · exact (feq_nan (.inl (by omega))).2.1

theorem VC_pow (a b : Nat) (h : b = a + 11) : 4503599627370496 * 2 ^ b = 9223372036854775808 * 2 ^ a := by
  rw [h, Nat.pow_add]
  generalize 2 ^ a = x
  omega
theorem V_top' (q K r : Nat) (h : r = q * 4503599627370496 + K) (h1 : 4503599627370496 ≤ K) (h2 : K < 9007199254740992) : V r = K * 2 ^ q := by rw [h]; exact V_top q K h1 h2
theorem VC {n : Nat} (hn : n = 1074) : V (rg 4890909195324358656) = 9223372036854775808 * 2 ^ n :=
  (V_top' (n + 11) 4503599627370496 _ (by rw [hn]; decide) (by omega) (by omega)).trans (VC_pow n _ rfl)
theorem Vinf {n : Nat} (hn : n = 1074) : 9223372036854775808 * 2 ^ n < V 9218868437227405312 := by
  rw [← VC hn]
  exact V_mono (by decide)
theorem keyC {n : Nat} (hn : n = 1074) : key 4890909195324358656 = ((9223372036854775808 * 2 ^ n : Nat) : Int) := by
  unfold key
  rw [VC hn]
  rfl
theorem keyD {n : Nat} (hn : n = 1074) : key 14114281232179134464 = -((9223372036854775808 * 2 ^ n : Nat) : Int) := by
  unfold key
  rw [show rg 14114281232179134464 = rg 4890909195324358656 from rfl, VC hn]
  rfl

theorem Compare_total (k : Nat) (a b : Nat) : ∃ r, floats_Compare.f (k + 1) a b = some r := by
  simp only [floats_Compare.f, floats_Compare.j0]
  repeat' split
  all_goals exact ⟨_, rfl⟩
theorem Compare_self (k : Nat) (a : Nat) : floats_Compare.f (k + 1) a a = some 0 := by
  simp only [floats_Compare.f, floats_Compare.j0, flt_irr]
  by_cases h : feq a a = true
  · simp [h]
  · simp [h]

theorem CompareInt_total (k : Nat) (n : Int) (x : Nat) : ∃ r, floats_CompareInt.f (k + 2) n x = some r := by
  obtain ⟨m, hm⟩ : ∃ m, m = 1074 := ⟨_, rfl⟩
  unfold floats_CompareInt.f
  by_cases h : feq x x = true
  · rw [if_pos h]
    rw [floats_CompareInt.j0]
    by_cases h1 : fle 4890909195324358656 x = true
    · rw [if_pos h1]; exact ⟨_, rfl⟩
    · rw [if_neg h1]
      by_cases h2 : flt x 14114281232179134464 = true
      · rw [if_pos h2]; exact ⟨_, rfl⟩
      · rw [if_neg h2]
        have hx : rg x ≤ 9218868437227405312 := by rw [feq_self] at h; exact of_decide_eq_true h
        rw [fle_eq (by decide) hx, decide_eq_true_iff, keyC hm] at h1
        rw [flt_eq hx (by decide), decide_eq_true_iff, keyD hm] at h2
        have hle : V (rg x) ≤ 9223372036854775808 * 2 ^ m ∧ (sg x = false → V (rg x) < 9223372036854775808 * 2 ^ m) := by
          unfold key sV at h1 h2
          generalize (9223372036854775808 * 2 ^ m : Nat) = c at h1 h2 ⊢
          cases hs : sg x
          · rw [hs] at h1 h2; simp only [Bool.false_eq_true, if_false] at h1 h2; exact ⟨by omega, fun _ => by omega⟩
          · rw [hs] at h1 h2; simp only [if_true] at h1 h2; exact ⟨by omega, fun e => by cases e⟩
        have hlt : rg x < 9218868437227405312 := V_lt.1 (Nat.lt_of_le_of_lt hle.1 (Vinf hm))
        have h64 : V (rg x) < 2 ^ 64 * 2 ^ m := Nat.lt_of_le_of_lt hle.1 (Nat.mul_lt_mul_of_pos_right (by decide) (Nat.two_pow_pos _))
        obtain ⟨t, e1, t1, t2, t3⟩ := trunc_spec hm hlt h64
        have hq : V (rg t) / 2 ^ m = V (rg x) / 2 ^ m := by rw [t3, mul_div_pow]
        have hq1 : V (rg x) / 2 ^ m ≤ 9223372036854775808 := by
          exact div_le_pow hle.1
        have hq2 : sg x = false → V (rg x) / 2 ^ m < 9223372036854775808 := fun e => div_lt_pow (hle.2 e)
        have hi : (ftoi t).isSome = true := by
          rw [ftoi_eq hm t1, t2, hq]
          rw [if_pos]
          · rfl
          · unfold sV
            generalize V (rg x) / 2 ^ m = q at hq1 hq2 ⊢
            cases hs : sg x
            · have := hq2 hs
              simp only [Bool.false_eq_true, if_false]; omega
            · simp only [if_true]; omega
        obtain ⟨r, hr⟩ := Compare_total k x t
        have ht : math_Trunc.f x = some t := by unfold math_Trunc.f; rw [e1]; rfl
        rw [ht, Option.bind_some, if_pos hi]
        split
        · exact ⟨_, rfl⟩
        · split
          · exact ⟨_, rfl⟩
          · rw [hr]; exact ⟨_, rfl⟩
  · rw [if_neg h]
    rw [floats_CompareInt.j0]
    exact ⟨_, if_pos rfl⟩

/-! ### class and canon -/
theorem neg_rg {a : Nat} (_h : a < 18446744073709551616) : rg (fneg a) = rg a ∧ sg (fneg a) = !(sg a) := by
  have e : fneg a = a ^^^ 2 ^ 63 := rfl
  have h1 : rg (fneg a) = rg a := by
    rw [e]
    unfold rg
    rw [show (9223372036854775808 : Nat) = 2 ^ 63 from rfl, Nat.xor_mod_two_pow, Nat.mod_self, Nat.xor_zero]
  refine ⟨h1, ?_⟩
  have h2 : sg a = a.testBit 63 := by
    unfold sg
    rw [Nat.testBit_eq_decide_div_mod_eq]
    rfl
  have h3 : sg (fneg a) = (fneg a).testBit 63 := by
    unfold sg
    rw [Nat.testBit_eq_decide_div_mod_eq]
    rfl
  rw [h2, h3, e, Nat.testBit_xor, Nat.testBit_two_pow_self]
  simp
theorem b_of {a : Nat} (h : a < 18446744073709551616) : a = rg a + (if sg a = true then 9223372036854775808 else 0) := by
  unfold rg sg
  by_cases h1 : a / 9223372036854775808 % 2 == 1
  · rw [if_pos h1]; rw [beq_iff_eq] at h1; omega
  · rw [if_neg h1]; rw [beq_iff_eq] at h1; omega
theorem IsInf_m (a : Nat) : math_IsInf.f a (-1) = some (flt 9218868437227405311 (fneg a)) := by simp [math_IsInf.f]
theorem IsInf_p (a : Nat) : math_IsInf.f a 1 = some (flt 9218868437227405311 a) := by simp [math_IsInf.f]
/-- The program's Canon: as the document's. -/
theorem Canon_eq {a : Nat} (h : a < 18446744073709551616) : floats_Canon.f a = some (if 9218868437227405312 < rg a then 9221120237041090560 else if rg a = 0 then 0 else a) := by
  unfold floats_Canon.f floats_Class.f
  rw [feq_self]
  by_cases hn : rg a ≤ 9218868437227405312
  · rw [if_pos (by simp [hn])]
    rw [if_neg (show ¬ 9218868437227405312 < rg a by omega)]
    rw [IsInf_m, IsInf_p]
    simp only [Option.bind_some]
    have k0 : key 0 = 0 := rfl
    have z0 : flt a 0 = decide (key a < 0) := by rw [flt_eq hn (by decide), k0]
    have z1 : flt 0 a = decide (0 < key a) := by rw [flt_eq (by decide) hn, k0]
    rw [z0, z1]
    by_cases hz : rg a = 0
    · have hk : key a = 0 := by unfold key sV; rw [hz, V_zero]; split <;> rfl
      have f1 : flt 9218868437227405311 (fneg a) = false := by
        rw [flt_eq (by decide) (by rw [(neg_rg h).1]; omega), decide_eq_false_iff_not]
        have : key (fneg a) = 0 := by unfold key sV; rw [(neg_rg h).1, hz, V_zero]; split <;> rfl
        have h2 : 0 ≤ key 9218868437227405311 := by unfold key sV; rw [show sg 9218868437227405311 = false from rfl]; simp
        omega
      have f2 : flt 9218868437227405311 a = false := by
        rw [flt_eq (by decide) hn, decide_eq_false_iff_not]
        have h2 : 0 ≤ key 9218868437227405311 := by unfold key sV; rw [show sg 9218868437227405311 = false from rfl]; simp
        omega
      rw [f1, f2, hk]
      simp [hz]
    · have hp : 0 < V (rg a) := by have := @V_mono 0 (rg a) (by omega); rw [V_zero] at this; exact this
      have hk : key a < 0 ∨ 0 < key a := by
        unfold key sV
        split
        · left; omega
        · right; omega
      rw [if_neg hz]
      clear z0 z1
      repeat' split
      all_goals simp
      all_goals (rcases hk with hk | hk <;> simp_all)
  · rw [if_neg (by simp [hn])]
    simp
    omega
theorem RCanon_eq {a : Nat} (h : a < 18446744073709551616) : cobwebref02_Canon.f (a : Int) = some (if 9218868437227405312 < rg a then 9221120237041090560 else if a = 9223372036854775808 then 0 else (a : Int)) := by
  unfold cobwebref02_Canon.f
  have e : Int.tmod (a : Int) 9223372036854775808 = (rg a : Int) := by
    unfold rg
    rw [Int.tmod_eq_emod_of_nonneg (by omega)]
    rfl
  rw [e]
  by_cases h1 : 9218868437227405312 < rg a
  · rw [if_pos (by omega), if_pos h1]
  · rw [if_neg (by omega), if_neg h1]
    by_cases h2 : a = 9223372036854775808
    · rw [if_pos (by omega), if_pos h2]
    · rw [if_neg (by omega), if_neg h2]
end Go.Proofs.Ytonhjpimadibaaa.P
