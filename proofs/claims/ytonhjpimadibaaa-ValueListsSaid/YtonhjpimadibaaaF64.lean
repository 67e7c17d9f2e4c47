-- Plain law of 64-bit floats: the order of words, what is left of a word cut towards zero.
import Derived.Test.YtonhjpimadibaaaWPp
namespace Go.Proofs.Ytonhjpimadibaaa.F64
open Go.RowKit Go.Proofs.YtonhjpimadibaaaW.PrintWords

def rg (b : Nat) : Nat := b % 9223372036854775808
def sg (b : Nat) : Bool := b / 9223372036854775808 % 2 == 1
/-- A rung's amount, in the least place. -/
def V (r : Nat) : Nat := if r < 4503599627370496 then r else (4503599627370496 + r % 4503599627370496) * 2 ^ (r / 4503599627370496 - 1)
def sV (s : Bool) (v : Nat) : Int := if s then -(v : Int) else (v : Int)
def key (b : Nat) : Int := sV (sg b) (V (rg b))

theorem pow_split (a b : Nat) (h : a ≤ b) : 2 ^ b = 2 ^ a * 2 ^ (b - a) := by rw [← Nat.pow_add]; congr 1; omega
theorem V_mono {r s : Nat} (h : r < s) : V r < V s := by
  unfold V
  by_cases h1 : s < 4503599627370496
  · rw [if_pos h1, if_pos (by omega)]; exact h
  · rw [if_neg h1]
    by_cases h2 : r < 4503599627370496
    · rw [if_pos h2]
      have : 1 ≤ 2 ^ (s / 4503599627370496 - 1) := Nat.one_le_two_pow
      have := Nat.mul_le_mul_left (4503599627370496 + s % 4503599627370496) this
      omega
    · rw [if_neg h2]
      have hq : r / 4503599627370496 ≤ s / 4503599627370496 := Nat.div_le_div_right (by omega)
      rcases Nat.eq_or_lt_of_le hq with he | hl
      · rw [he]
        exact Nat.mul_lt_mul_of_pos_right (by omega) (Nat.two_pow_pos _)
      · have h3 : (2 : Nat) ^ (s / 4503599627370496 - 1) = 2 ^ (r / 4503599627370496 - 1 + 1) * 2 ^ (s / 4503599627370496 - 1 - (r / 4503599627370496 - 1 + 1)) := pow_split _ _ (by omega)
        have h4 : 1 ≤ 2 ^ (s / 4503599627370496 - 1 - (r / 4503599627370496 - 1 + 1)) := Nat.one_le_two_pow
        have h5 : (4503599627370496 + r % 4503599627370496) * 2 ^ (r / 4503599627370496 - 1) < 9007199254740992 * 2 ^ (r / 4503599627370496 - 1) := Nat.mul_lt_mul_of_pos_right (by omega) (Nat.two_pow_pos _)
        have h6 : 9007199254740992 * 2 ^ (r / 4503599627370496 - 1) = 4503599627370496 * 2 ^ (r / 4503599627370496 - 1 + 1) := by rw [Nat.pow_succ]; omega
        have h7 : 4503599627370496 * 2 ^ (r / 4503599627370496 - 1 + 1) ≤ (4503599627370496 + s % 4503599627370496) * 2 ^ (s / 4503599627370496 - 1) := by
          rw [h3]
          refine Nat.le_trans (Nat.mul_le_mul_right _ (Nat.le_add_right _ (s % 4503599627370496))) (Nat.mul_le_mul_left _ ?_)
          exact Nat.le_mul_of_pos_right _ (by omega)
        omega
theorem V_lt {r s : Nat} : V r < V s ↔ r < s := ⟨fun h => by
  rcases Nat.lt_trichotomy r s with h1 | h1 | h1
  · exact h1
  · subst h1; omega
  · have := V_mono h1; omega, V_mono⟩
theorem V_inj {r s : Nat} (h : V r = V s) : r = s := by
  rcases Nat.lt_trichotomy r s with h1 | h1 | h1
  · have := V_mono h1; omega
  · exact h1
  · have := V_mono h1; omega
theorem V_zero : V 0 = 0 := rfl

theorem read_num {b : Nat} (h : rg b < 9218868437227405312) : ∃ m e : Nat, Ieee.double.read b = .number (sg b) m (-1074 + (e : Int)) ∧ m * 2 ^ e = V (rg b) ∧ m < 9007199254740992 ∧ e ≤ 2045 ∧ (0 < e → 4503599627370496 ≤ m) := by
  have hs : Ieee.double.signWeight = 9223372036854775808 := by decide
  have hb : Ieee.double.binade = 4503599627370496 := by decide
  have hi : Ieee.double.infRung = 9218868437227405312 := by decide
  have hl : Ieee.double.leastPlace = -1074 := by decide
  unfold Ieee.Format.read
  simp only [hs, hb, hi, hl]
  unfold rg at h
  unfold V rg sg
  by_cases h1 : b % 9223372036854775808 < 4503599627370496
  · rw [if_pos h1, if_pos h1]
    exact ⟨_, 0, rfl, by simp, by omega, by omega, by omega⟩
  · rw [if_neg h1, if_pos h, if_neg h1]
    exact ⟨_, _, rfl, rfl, by omega, by omega, by omega⟩
theorem read_inf {b : Nat} (h : rg b = 9218868437227405312) : Ieee.double.read b = .infinity (sg b) := by
  have hs : Ieee.double.signWeight = 9223372036854775808 := by decide
  have hb : Ieee.double.binade = 4503599627370496 := by decide
  have hi : Ieee.double.infRung = 9218868437227405312 := by decide
  unfold Ieee.Format.read
  simp only [hs, hb, hi]
  unfold rg at h
  rw [if_neg (by omega), if_neg (by omega), if_pos h]
  rfl
theorem read_nan {b : Nat} (h : 9218868437227405312 < rg b) : ∃ t, Ieee.double.read b = .nan (sg b) t := by
  have hs : Ieee.double.signWeight = 9223372036854775808 := by decide
  have hb : Ieee.double.binade = 4503599627370496 := by decide
  have hi : Ieee.double.infRung = 9218868437227405312 := by decide
  unfold Ieee.Format.read
  simp only [hs, hb, hi]
  unfold rg at h
  rw [if_neg (by omega), if_neg (by omega), if_neg (by omega)]
  exact ⟨_, rfl⟩

theorem compare_congr {a b c d : Int} (h1 : a < b ↔ c < d) (h2 : a = b ↔ c = d) : compare a b = compare c d := by
  simp only [compare, compareOfLessAndEq, h1, h2]
theorem compare_lt {a b : Int} (h : a < b) : compare a b = .lt := by simp only [compare, compareOfLessAndEq, if_pos h]
theorem compare_gt {a b : Int} (h : b < a) : compare a b = .gt := by
  simp only [compare, compareOfLessAndEq]
  rw [if_neg (by omega), if_neg (by omega)]
theorem compare_self' (a : Int) : compare a a = .eq := by
  simp [compare, compareOfLessAndEq]
theorem signed_eq (s : Bool) (m u : Nat) : Ieee.signed s m u = sV s (m * 2 ^ u) := by
  unfold Ieee.signed sV
  rw [Nat.shiftLeft_eq]
theorem sV_mul (s : Bool) (v c : Nat) : sV s (v * c) = sV s v * (c : Int) := by
  unfold sV
  cases s
  · simp
  · simp [Int.neg_mul]
theorem lt_scale {a b : Int} {c : Nat} (hc : 0 < c) : a < b ↔ a * (c : Int) < b * (c : Int) := by
  constructor
  · intro h; exact Int.mul_lt_mul_of_pos_right h (by omega)
  · intro h; exact Int.lt_of_mul_lt_mul_right h (by omega)
theorem eq_scale {a b : Int} {c : Nat} (hc : 0 < c) : a = b ↔ a * (c : Int) = b * (c : Int) := by
  constructor
  · intro h; rw [h]
  · intro h; exact Int.eq_of_mul_eq_mul_right (by omega) h

theorem order_eq {a b : Nat} (ha : rg a ≤ 9218868437227405312) (hb : rg b ≤ 9218868437227405312) : FloatKind.f64.format.order a b = some (compare (key a) (key b)) := by
  show (Ieee.double.read a).order (Ieee.double.read b) = _
  unfold key
  rcases Nat.eq_or_lt_of_le ha with ea | la
  · rcases Nat.eq_or_lt_of_le hb with eb | lb
    · rw [read_inf ea, read_inf eb, ea, eb]
      have hp : 0 < V 9218868437227405312 := by have := @V_mono 0 9218868437227405312 (by omega); rw [V_zero] at this; exact this
      generalize V 9218868437227405312 = v at hp ⊢
      cases sg a <;> cases sg b <;> simp only [Ieee.Datum.order, sV, Bool.toNat] <;> congr 1
      · rw [compare_self']; rfl
      · rw [compare_gt (by simp; omega)]; rfl
      · rw [compare_lt (by simp; omega)]; rfl
      · rw [compare_self']; rfl
    · obtain ⟨n, f, e2, v2, _⟩ := read_num lb
      rw [read_inf ea, e2, ea]
      have hm := V_mono lb
      generalize V 9218868437227405312 = v at hm ⊢
      cases sg a <;> cases sg b <;> simp only [Ieee.Datum.order, sV] <;> congr 1
      · rw [compare_gt (by simp; omega)]; rfl
      · rw [compare_gt (by simp; omega)]; rfl
      · rw [compare_lt (by simp; omega)]; rfl
      · rw [compare_lt (by simp; omega)]; rfl
  · obtain ⟨m, e, e1, v1, _⟩ := read_num la
    rcases Nat.eq_or_lt_of_le hb with eb | lb
    · rw [read_inf eb, e1, eb]
      have hm := V_mono la
      generalize V 9218868437227405312 = v at hm ⊢
      cases sg a <;> cases sg b <;> simp only [Ieee.Datum.order, sV] <;> congr 1
      · rw [compare_lt (by simp; omega)]; rfl
      · rw [compare_gt (by simp; omega)]; rfl
      · rw [compare_lt (by simp; omega)]; rfl
      · rw [compare_gt (by simp; omega)]; rfl
    · obtain ⟨n, f, e2, v2, _⟩ := read_num lb
      rw [e1, e2]
      simp only [Ieee.Datum.order]
      congr 1
      rw [signed_eq, signed_eq, ← v1, ← v2]
      have h1 : (-1074 + (e : Int) - min (-1074 + (e : Int)) (-1074 + (f : Int))).toNat = e - min e f := by omega
      have h2 : (-1074 + (f : Int) - min (-1074 + (e : Int)) (-1074 + (f : Int))).toNat = f - min e f := by omega
      rw [h1, h2]
      have p1 : 2 ^ e = 2 ^ (e - min e f) * 2 ^ (min e f) := by rw [← Nat.pow_add]; congr 1; omega
      have p2 : 2 ^ f = 2 ^ (f - min e f) * 2 ^ (min e f) := by rw [← Nat.pow_add]; congr 1; omega
      rw [p1, p2, ← Nat.mul_assoc, ← Nat.mul_assoc, sV_mul (sg a) (m * 2 ^ (e - min e f)), sV_mul (sg b) (n * 2 ^ (f - min e f))]
      exact compare_congr (lt_scale (Nat.two_pow_pos _)) (eq_scale (Nat.two_pow_pos _))
theorem order_nan {a b : Nat} (h : 9218868437227405312 < rg a ∨ 9218868437227405312 < rg b) : FloatKind.f64.format.order a b = none := by
  show (Ieee.double.read a).order (Ieee.double.read b) = _
  rcases h with h | h
  · obtain ⟨t, e⟩ := read_nan h
    rw [e]
    cases Ieee.double.read b <;> rfl
  · obtain ⟨t, e⟩ := read_nan h
    rw [e]
    cases Ieee.double.read a <;> rfl

/-- Cut towards zero: the amount's whole part. -/
theorem cut_zero (s : Bool) (n d : Nat) : Ieee.Toward.zero.cut s n d = n / 2 ^ d := by
  unfold Ieee.Toward.cut
  simp only [Bool.toNat_false, Nat.add_zero, Nat.one_shiftLeft]
  by_cases h : d ≤ n.log2 + 2
  · rw [Nat.min_eq_left h]
  · rw [Nat.min_eq_right (by omega)]
    have h1 : n < 2 ^ (n.log2 + 1) := Nat.lt_log2_self
    have h2 : (2 : Nat) ^ (n.log2 + 1) ≤ 2 ^ (n.log2 + 2) := Nat.pow_le_pow_right (by omega) (by omega)
    have h3 : (2 : Nat) ^ (n.log2 + 1) ≤ 2 ^ d := Nat.pow_le_pow_right (by omega) (by omega)
    rw [Nat.div_eq_of_lt (by omega), Nat.div_eq_of_lt (by omega)]
theorem mul_pow_div (m e n : Nat) (h : n ≤ e) : m * 2 ^ e / 2 ^ n = m * 2 ^ (e - n) := by
  rw [pow_split n e h, Nat.mul_comm (2 ^ n), ← Nat.mul_assoc, Nat.mul_div_cancel _ (Nat.two_pow_pos _)]
theorem mul_pow_div' (m e n : Nat) (h : e ≤ n) : m * 2 ^ e / 2 ^ n = m / 2 ^ (n - e) := by
  rw [pow_split e n h, ← Nat.div_div_eq_div_mul, Nat.mul_div_cancel _ (Nat.two_pow_pos _)]
theorem div_lt_pow {a b n : Nat} (h : a < b * 2 ^ n) : a / 2 ^ n < b := (Nat.div_lt_iff_lt_mul (Nat.two_pow_pos n)).2 h
theorem div_le_pow {a b n : Nat} (h : a ≤ b * 2 ^ n) : a / 2 ^ n ≤ b := by
  have := Nat.div_le_div_right (c := 2 ^ n) h
  rwa [Nat.mul_div_cancel _ (Nat.two_pow_pos _)] at this
theorem mul_div_pow (a n : Nat) : a * 2 ^ n / 2 ^ n = a := Nat.mul_div_cancel _ (Nat.two_pow_pos _)
theorem pow_lt_pow {a n e : Nat} (m : Nat) (h : m < a) (he : e ≤ n) : m * 2 ^ e < a * 2 ^ n := Nat.mul_lt_mul_of_lt_of_le h (Nat.pow_le_pow_right (by omega) he) (Nat.two_pow_pos _)
theorem integral_num {n : Nat} (hn : n = 1074) (s : Bool) (m e : Nat) : (Ieee.Datum.number s m (-1074 + (e : Int))).integral .zero = .number s (m * 2 ^ e / 2 ^ n) 0 := by
  unfold Ieee.Datum.integral
  simp only
  rw [cut_zero, Nat.shiftLeft_eq]
  congr 1
  by_cases h : n ≤ e
  · have h1 : (-1074 + (e : Int)).toNat = e - n := by omega
    have h2 : (-(-1074 + (e : Int))).toNat = 0 := by omega
    rw [h1, h2, Nat.pow_zero, Nat.div_one, mul_pow_div m e n h]
  · have h1 : (-1074 + (e : Int)).toNat = 0 := by omega
    have h2 : (-(-1074 + (e : Int))).toNat = n - e := by omega
    rw [h1, h2, Nat.pow_zero, Nat.mul_one, mul_pow_div' m e n (by omega)]

theorem word_rg (s : Bool) (r : Nat) (h : r < 9223372036854775808) : rg (Ieee.double.word s r) = r ∧ sg (Ieee.double.word s r) = s := by
  have hs : Ieee.double.signWeight = 9223372036854775808 := by decide
  unfold Ieee.Format.word rg sg
  rw [hs]
  cases s
  · simp only [Bool.false_eq_true, if_false]
    exact ⟨by omega, by rw [beq_eq_false_iff_ne]; omega⟩
  · simp only [if_true]
    exact ⟨by omega, by rw [beq_iff_eq]; omega⟩
theorem cut_even (s : Bool) (n d : Nat) (hd : d ≤ n.log2 + 2) (h : 2 ^ d ∣ n) : Ieee.Toward.even.cut s n d = n / 2 ^ d := by
  unfold Ieee.Toward.cut
  rw [Nat.min_eq_left hd, Nat.one_shiftLeft]
  have h1 : n % 2 ^ d = 0 := Nat.mod_eq_zero_of_dvd h
  have h2 : 0 < 2 ^ d := Nat.two_pow_pos _
  simp only [h1, Nat.mul_zero]
  have h3 : decide (2 ^ d < 0) = false := decide_eq_false (by omega)
  have h4 : (2 ^ d == 0) = false := by rw [beq_eq_false_iff_ne]; omega
  rw [h3, h4]
  rfl
theorem V_top (q K : Nat) (h1 : 4503599627370496 ≤ K) (h2 : K < 9007199254740992) : V (q * 4503599627370496 + K) = K * 2 ^ q := by
  have e1 : (q * 4503599627370496 + K) / 4503599627370496 = q + 1 := by omega
  have e2 : (q * 4503599627370496 + K) % 4503599627370496 = K - 4503599627370496 := by omega
  unfold V
  rw [if_neg (by omega), e1, e2, show 4503599627370496 + (K - 4503599627370496) = K by omega, Nat.add_sub_cancel]
/-- A whole number that needs no more than 53 places is a float. -/
theorem nearest_exact {n : Nat} (hn : n = 1074) (s : Bool) (q : Nat) (hq : 0 < q) (hl : q.log2 ≤ 1000) (hd : 52 < q.log2 → 2 ^ (q.log2 - 52) ∣ q) :
    rg (Ieee.double.nearest s q 0) < 9218868437227405312 ∧ sg (Ieee.double.nearest s q 0) = s ∧ V (rg (Ieee.double.nearest s q 0)) = q * 2 ^ n := by
  have hb : Ieee.double.binade = 4503599627370496 := by decide
  have hi : Ieee.double.infRung = 9218868437227405312 := by decide
  have hp : Ieee.double.leastPlace = -1074 := by decide
  have hf : Ieee.double.fractionBits = 52 := rfl
  have q1 : 2 ^ q.log2 ≤ q := Nat.log2_self_le (by omega)
  have q2 : q < 2 ^ (q.log2 + 1) := Nat.lt_log2_self
  have e0 : max ((0 : Int) + (q.log2 : Int) - (52 : Nat)) (-1074) = (q.log2 : Int) - 52 := by omega
  have key : ∃ K, Ieee.double.nearest s q 0 = Ieee.double.word s (min ((q.log2 + 1022) * 4503599627370496 + K) 9218868437227405312) ∧ 4503599627370496 ≤ K ∧ K < 9007199254740992 ∧ K * 2 ^ (q.log2 + 1022) = q * 2 ^ n := by
    unfold Ieee.Format.nearest
    rw [if_neg (by omega), hb, hi, hp, hf]
    simp only [e0]
    have e3 : ((q.log2 : Int) - 52 - -1074).toNat = q.log2 + 1022 := by omega
    rw [e3]
    by_cases h : q.log2 ≤ 52
    · have e1 : ((0 : Int) - ((q.log2 : Int) - 52)).toNat = 52 - q.log2 := by omega
      have e2 : (((q.log2 : Int) - 52) - 0).toNat = 0 := by omega
      rw [e1, e2, cut_even _ _ _ (by omega) ⟨_, (by rw [Nat.pow_zero, Nat.one_mul])⟩, Nat.pow_zero, Nat.div_one, Nat.shiftLeft_eq]
      refine ⟨_, rfl, ?_, ?_, ?_⟩
      · have : 2 ^ q.log2 * 2 ^ (52 - q.log2) = 4503599627370496 := by rw [← pow_split _ _ h]
        rw [← this]
        exact Nat.mul_le_mul_right _ q1
      · have : 2 ^ (q.log2 + 1) * 2 ^ (52 - q.log2) = 9007199254740992 := by rw [← Nat.pow_add, show q.log2 + 1 + (52 - q.log2) = 53 by omega]
        rw [← this]
        exact Nat.mul_lt_mul_of_pos_right q2 (Nat.two_pow_pos _)
      · rw [Nat.mul_assoc, ← Nat.pow_add, show 52 - q.log2 + (q.log2 + 1022) = n by omega]
    · have e1 : ((0 : Int) - ((q.log2 : Int) - 52)).toNat = 0 := by omega
      have e2 : (((q.log2 : Int) - 52) - 0).toNat = q.log2 - 52 := by omega
      rw [e1, e2, Nat.shiftLeft_zero, cut_even _ _ _ (by omega) (hd (by omega))]
      have hK : q / 2 ^ (q.log2 - 52) * 2 ^ (q.log2 - 52) = q := Nat.div_mul_cancel (hd (by omega))
      refine ⟨_, rfl, ?_, ?_, ?_⟩
      · rw [Nat.le_div_iff_mul_le (Nat.two_pow_pos _), show (4503599627370496 : Nat) = 2 ^ 52 from rfl, ← Nat.pow_add, show 52 + (q.log2 - 52) = q.log2 by omega]
        exact q1
      · rw [Nat.div_lt_iff_lt_mul (Nat.two_pow_pos _), show (9007199254740992 : Nat) = 2 ^ 53 from rfl, ← Nat.pow_add, show 53 + (q.log2 - 52) = q.log2 + 1 by omega]
        exact q2
      · rw [show q.log2 + 1022 = (q.log2 - 52) + n by omega, Nat.pow_add, ← Nat.mul_assoc, hK]
  obtain ⟨K, e, k1, k2, k3⟩ := key
  rw [Nat.min_eq_left (by omega)] at e
  obtain ⟨w1, w2⟩ := word_rg s ((q.log2 + 1022) * 4503599627370496 + K) (by omega)
  rw [e, w1, w2]
  exact ⟨by omega, rfl, by rw [V_top _ _ k1 k2, k3]⟩
theorem nearest_zero (n : Nat) (s : Bool) : rg (Ieee.double.nearest s 0 0) < 9218868437227405312 ∧ sg (Ieee.double.nearest s 0 0) = s ∧ V (rg (Ieee.double.nearest s 0 0)) = 0 * 2 ^ n := by
  have e : Ieee.double.nearest s 0 0 = Ieee.double.word s 0 := by unfold Ieee.Format.nearest; rw [if_pos rfl]
  obtain ⟨w1, w2⟩ := word_rg s 0 (by omega)
  rw [e, w1, w2]
  exact ⟨by omega, rfl, V_zero.trans (Nat.zero_mul _).symm⟩

/-- 'math.Trunc' of a number below 2^64, and its 'int'. -/
theorem trunc_spec {n : Nat} (hn : n = 1074) {b : Nat} (h : rg b < 9218868437227405312) (hV : V (rg b) < 2 ^ 64 * 2 ^ n) :
    ∃ t, ftrunc b = some t ∧ rg t < 9218868437227405312 ∧ sg t = sg b ∧ V (rg t) = V (rg b) / 2 ^ n * 2 ^ n := by
  obtain ⟨m, e, e1, v1, hm, he, hnn⟩ := read_num h
  refine ⟨FloatKind.f64.encode ((FloatKind.f64.decode b).integral .zero), ?_, ?_⟩
  · unfold ftrunc
    show (match Ieee.double.read b with | .nan _ t => _ | d => _) = _
    rw [show FloatKind.f64.decode b = Ieee.double.read b from rfl, e1]
  · rw [show FloatKind.f64.decode b = Ieee.double.read b from rfl, e1, integral_num hn, v1]
    show rg (Ieee.double.nearest (sg b) (V (rg b) / 2 ^ n) 0) < _ ∧ sg (Ieee.double.nearest (sg b) (V (rg b) / 2 ^ n) 0) = _ ∧ V (rg (Ieee.double.nearest (sg b) (V (rg b) / 2 ^ n) 0)) = _
    by_cases hz : V (rg b) / 2 ^ n = 0
    · rw [hz]
      exact nearest_zero n _
    · have hq64 : V (rg b) / 2 ^ n < 2 ^ 64 := div_lt_pow hV
      have hl : (V (rg b) / 2 ^ n).log2 < 64 := (Nat.log2_lt hz).2 hq64
      refine nearest_exact hn _ _ (Nat.pos_of_ne_zero hz) (by omega) (fun h52 => ?_)
      by_cases h1 : n ≤ e
      · have hq : V (rg b) / 2 ^ n = m * 2 ^ (e - n) := by
          rw [← v1, mul_pow_div m e n h1]
        have hlt : V (rg b) / 2 ^ n < 2 ^ (53 + (e - n)) := by
          rw [hq, Nat.pow_add]
          exact Nat.mul_lt_mul_of_pos_right hm (Nat.two_pow_pos _)
        have hlg : (V (rg b) / 2 ^ n).log2 < 53 + (e - n) := (Nat.log2_lt hz).2 hlt
        generalize (V (rg b) / 2 ^ n).log2 = lg at hlg h52 ⊢
        rw [hq, pow_split (lg - 52) (e - n) (by omega)]
        exact ⟨m * 2 ^ (e - n - (lg - 52)), by rw [← Nat.mul_assoc, Nat.mul_comm m, Nat.mul_assoc]⟩
      · have hlt : V (rg b) / 2 ^ n < 2 ^ 53 := by
          rw [← v1]
          exact div_lt_pow (pow_lt_pow m hm (by omega))
        have := (Nat.log2_lt hz).2 hlt
        omega
theorem ftoi_eq {n : Nat} (hn : n = 1074) {b : Nat} (h : rg b < 9218868437227405312) : ftoi b = (if -9223372036854775808 ≤ sV (sg b) (V (rg b) / 2 ^ n) ∧ sV (sg b) (V (rg b) / 2 ^ n) ≤ 9223372036854775807 then some (sV (sg b) (V (rg b) / 2 ^ n)) else none) := by
  obtain ⟨m, e, e1, v1, _⟩ := read_num h
  unfold ftoi floatToIntVal
  rw [show FloatKind.f64.decode b = Ieee.double.read b from rfl, e1]
  unfold Ieee.Datum.toInt
  rw [integral_num hn, v1]
  simp only [signed_eq, Nat.pow_zero, Nat.mul_one]
  rfl
end Go.Proofs.Ytonhjpimadibaaa.F64
