-- This session's own words beside the print's: floats as a kind, their tests, the body-less functions' laws.
import Derived.Laws.Cover2
import Derived.Laws.FloatArith
import Derived.Laws.Externs
import Derived.Test.YtonhjpimadibaaaProg
import Derived.Test.YtonhjpimadibaaaWFoot
import Derived.Test.YtonhjpimadibaaaWWords
import Derived.Test.YtonhjpimadibaaaWLast
import Derived.Test.YtonhjpimadibaaaWMore
namespace Go.Proofs.YtonhjpimadibaaaW.PrintWords
open Go.RowKit

namespace Kd
def float : Kd Nat := scalar (Value.float .f64) (fun _ => rfl)
theorem heap_float : Heap Kd.float := ⟨fun _ h => h⟩
theorem at_float {w : World} {A : Option Addr} {n : Nat} {xs : List Nat} (h : Kd.float.C w A n xs) (i : Int) (h0 : 0 ≤ i) (h1 : i < n) : ∃ ad, A = some ad ∧ w.cell? (ad.add i.toNat) = some (.float .f64 (rdOf 0 xs i)) :=
  ReadsOf.at_ (reads_of_C (enc := Value.float .f64) (d := (0 : Nat)) (h1 := fun _ => rfl) h) i h0 h1
end Kd

/-- 'int(f)', where Go fixes it; 'math.Trunc(f)', where the model fixes it. -/
def ftoi (b : Nat) : Option Int := floatToIntVal .f64 b .i64
def ftrunc (b : Nat) : Option Nat :=
  match FloatKind.f64.decode b with
  | .nan _ t => if FloatKind.f64.format.quiet t = t then some b else none
  | d => some (FloatKind.f64.encode (d.integral .zero))
@[go_sem] theorem run_ftoi {P : Program} (src dst : TypeId) (b : Nat) (w : World) (hs : (P.underlying src).isSome = true) (hd : P.underlying dst = some (.int .i64)) (h : (ftoi b).isSome = true) :
    (convert src dst (.float .f64 b)).run P w = .ok (.int .i64 ((ftoi b).getD 0)) w := by
  obtain ⟨n, hn⟩ := Option.isSome_iff_exists.1 h
  rw [hn]
  exact run_convert_float_int w src dst .f64 .i64 b n hs hd hn
theorem run_toIntegral (P : Program) (b : Nat) (w : World) (h : (ftrunc b).isSome = true) :
    (Extern.MathFloor.toIntegral "math.archTrunc" .zero #[.float .f64 b]).run P w = .ok (.float .f64 ((ftrunc b).getD 0)) w := by
  change (match FloatKind.f64.decode b with
    | .nan s t =>
      if FloatKind.f64.format.quiet t = t then pure (Value.float .f64 b) else do
      let kept ← choose (.extern "math.Floor,Ceil,Trunc,RoundToEven.signallingNaN kept" 2)
      pure (Value.float .f64 (if kept == 1 then b else FloatKind.f64.encode (.nan s (FloatKind.f64.format.quiet t))))
    | d => pure (Value.float .f64 (FloatKind.f64.encode (d.integral .zero))) : Sem Value).run P w = _
  unfold ftrunc at h ⊢
  cases hd : FloatKind.f64.decode b with
  | nan s t =>
    rw [hd] at h
    simp only at h ⊢
    by_cases hq : FloatKind.f64.format.quiet t = t
    · simp only [if_pos hq]
      rfl
    · rw [if_neg hq] at h
      cases h
  | infinity s => rfl
  | number s m e => rfl

theorem bytesLess_flip : ∀ (a b : List UInt8), (!(Op.bytesLess a b || a == b)) = Op.bytesLess b a
  | [], [] => rfl
  | [], _ :: _ => rfl
  | _ :: _, [] => rfl
  | x :: a, y :: b => by
    have ih := bytesLess_flip a b
    simp only [Op.bytesLess, List.cons_beq_cons]
    rw [← ih]
    have h1 : (decide (x < y) : Bool) = decide (x.toNat < y.toNat) := by simp [UInt8.lt_iff_toNat_lt]
    have h2 : (decide (y < x) : Bool) = decide (y.toNat < x.toNat) := by simp [UInt8.lt_iff_toNat_lt]
    have h3 : (x == y) = decide (x.toNat = y.toNat) := by rw [Bool.eq_iff_iff]; simp [UInt8.toNat_inj]
    have h4 : (y == x) = decide (x.toNat = y.toNat) := by rw [Bool.eq_iff_iff]; simp [UInt8.toNat_inj]; exact eq_comm
    rw [h1, h2, h3, h4]
    rcases Nat.lt_trichotomy x.toNat y.toNat with h | h | h
    · have e1 : ¬ (y.toNat < x.toNat) := by omega
      have e2 : ¬ (x.toNat = y.toNat) := by omega
      simp [h, e1, e2]
    · simp [h]
    · have e1 : ¬ (x.toNat < y.toNat) := by omega
      have e2 : ¬ (x.toNat = y.toNat) := by omega
      simp [h, e1, e2]
section
variable {P : Program} (t : TypeId) (a b : ByteArray)
@[go_sem high] theorem str_gtr : binOp .gtr t (.string a) (.string b) = pure (.bool (Op.bytesLess b.toList a.toList)) := by rw [← bytesLess_flip]; simp [binOp, Op.stringOp]
@[go_sem high] theorem str_leq : binOp .leq t (.string a) (.string b) = pure (.bool (!(Op.bytesLess b.toList a.toList))) := by rw [← bytesLess_flip]; simp [binOp, Op.stringOp]
@[go_sem high] theorem str_geq : binOp .geq t (.string a) (.string b) = pure (.bool (!(Op.bytesLess a.toList b.toList))) := by simp [binOp, Op.stringOp]
end

@[go_sem high] theorem min2_len (k k' : IntKind) (x y : Nat) : Builtin.min2 (.int k (x : Int)) (.int k' (y : Int)) = pure (.int k (PrintWords.mn x y)) := by
  rw [PrintMore.min2_int]
  rfl
@[go_sem high] theorem max2_len (k k' : IntKind) (x y : Nat) : Builtin.max2 (.int k (x : Int)) (.int k' (y : Int)) = pure (.int k (PrintWords.mx x y)) := by
  rw [PrintMore.max2_int]
  rfl

theorem u8_w (n : Int) : IntKind.u8.wrap n = n % 256 := IntKind.wrap_u8 n
theorem u32_w (n : Int) : IntKind.u32.wrap n = n % 4294967296 := by simp [IntKind.wrap, IntKind.bits, IntKind.signed]
theorem bt_lo (s : ByteArray) (i : Int) : 0 ≤ bt s i := (bt_range s i).1
theorem bt_hi (s : ByteArray) (i : Int) : bt s i ≤ 255 := (bt_range s i).2

/-- Floats' tests, as Bools. -/
def feq (a b : Nat) : Bool := FloatKind.f64.format.order a b == some .eq
def flt (a b : Nat) : Bool := FloatKind.f64.format.order a b == some .lt
def fle (a b : Nat) : Bool := FloatKind.f64.format.order a b == some .lt || FloatKind.f64.format.order a b == some .eq
def fneg (a : Nat) : Nat := Op.negFloat .f64 a

theorem compare_swap (a b : Int) : compare a b = (compare b a).swap := by
  simp only [compare, compareOfLessAndEq]
  repeat' split
  all_goals first | rfl | omega
theorem bool_compare_swap (a b : Bool) : compare a.toNat b.toNat = (compare b.toNat a.toNat).swap := by
  cases a <;> cases b <;> rfl
theorem datum_swap (d e : Ieee.Datum) : d.order e = (e.order d).map Ordering.swap := by
  cases d with
  | nan s t => cases e <;> rfl
  | infinity s =>
    cases e with
    | nan => rfl
    | infinity t => show some _ = some _; rw [bool_compare_swap]
    | number t n j => cases s <;> rfl
  | number s m i =>
    cases e with
    | nan => rfl
    | infinity t => cases t <;> rfl
    | number t n j =>
      show some (compare _ _) = some (Ordering.swap (compare _ _))
      rw [compare_swap, Int.min_comm]
theorem order_swap (a b : Nat) : FloatKind.f64.format.order a b = (FloatKind.f64.format.order b a).map Ordering.swap := datum_swap _ _
theorem gt_flt (a b : Nat) : (FloatKind.f64.format.order a b == some .gt) = flt b a := by
  unfold flt
  rw [order_swap a b]
  cases FloatKind.f64.format.order b a with
  | none => rfl
  | some o => cases o <;> rfl
theorem ge_fle (a b : Nat) : (FloatKind.f64.format.order a b == some .gt || FloatKind.f64.format.order a b == some .eq) = fle b a := by
  unfold fle
  rw [order_swap a b]
  cases FloatKind.f64.format.order b a with
  | none => rfl
  | some o => cases o <;> rfl
section
variable {P : Program} (t : TypeId) (a b : Nat)
@[go_sem high] theorem f64_eql : binOp .eql t (.float .f64 a) (.float .f64 b) = pure (.bool (feq a b)) := by rw [binOp_float_cmp_eql]; rfl
@[go_sem high] theorem f64_neq : binOp .neq t (.float .f64 a) (.float .f64 b) = pure (.bool (!feq a b)) := by rw [binOp_float_cmp_neq]; rfl
@[go_sem high] theorem f64_lss : binOp .lss t (.float .f64 a) (.float .f64 b) = pure (.bool (flt a b)) := by rw [binOp_float_cmp_lss]; rfl
@[go_sem high] theorem f64_leq : binOp .leq t (.float .f64 a) (.float .f64 b) = pure (.bool (fle a b)) := by rw [binOp_float_cmp_leq]; rfl
@[go_sem high] theorem f64_gtr : binOp .gtr t (.float .f64 a) (.float .f64 b) = pure (.bool (flt b a)) := by rw [binOp_float_cmp_gtr, gt_flt]
@[go_sem high] theorem f64_geq : binOp .geq t (.float .f64 a) (.float .f64 b) = pure (.bool (fle b a)) := by rw [binOp_float_cmp_geq, ge_fle]
@[go_sem] theorem run_store_f64 {a : Addr} {m : Mode} (w : World) (k : FloatKind) (n : Nat) : (store a (.float k n) m).run P w = stored P w a (.float k n) m := run_store P w a _ m rfl
@[go_sem] theorem f64_neg : Op.unary .neg (.float .f64 a) = pure (.float .f64 (fneg a)) := rfl
end
@[go_sem] theorem run_f64bits (b : Nat) (w : World) : (callFunc 14 #[.float .f64 b]).run Try.prog w = .ok (.value (.int .u64 (b : Int))) w := by kernel_rfl
@[go_sem] theorem run_f64frombits (n : Int) (w : World) : (callFunc 29 #[.int .u64 n]).run Try.prog w = .ok (.value (.float .f64 n.toNat)) w := by kernel_rfl
@[go_sem] theorem run_archTrunc (b : Nat) (w : World) (h : (ftrunc b).isSome = true) : (callFunc 32 #[.float .f64 b]).run Try.prog w = .ok (.value (.float .f64 ((ftrunc b).getD 0))) w := by
  rw [run_callFunc_extern (fn := Try.f32) (e := Extern.MathFloor.toIntegral "math.archTrunc" .zero) (by kernel_rfl) (by kernel_rfl) (by kernel_rfl) (by kernel_rfl) (by kernel_rfl), run_toIntegral _ b w h]
  rfl

end Go.Proofs.YtonhjpimadibaaaW.PrintWords
