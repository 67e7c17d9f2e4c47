-- ValueLists: words for its drawing region.
import Derived.Test.YtonhjpimadibaaaVL1
import Derived.Test.YtonhjpimadibaaaPx8
namespace Go.Proofs.Ytonhjpimadibaaa.P
open Go.RowKit Go.Proofs.YtonhjpimadibaaaW.PrintWords Go.Proofs.YtonhjpimadibaaaW.PrintLast Go.Proofs.YtonhjpimadibaaaW.PrintMore
set_option linter.unusedVariables false
set_option linter.unusedSimpArgs false

section
variable {P : Program} {ops : Array Oper} {Q : Exit → Act → World → Prop}
/-- A closure's call, out of a slot. -/
theorem goesC_ {oi : Oper} {N : Option Tmp} {a : Act} {w : World} {K : Act → World → Prop} {f : FuncId} {fn : Func} {t : Tmp} {cap : Array Value} {az : Array Operand} {ts : Array TypeId} (hf : P.funcs[f]? = some fn) (hname : (fn.name == "runtime.NumGoroutine") = false) (hb : fn.body.isSome = true) (args : Array Value)
    (hw : Region.wanted oi (yielded ops a.tmps) = true) (hN : oi.dst = N) (hop : oi.op = .call { callee := .value (.tmp t), args := az, argTypes := ts }) (hv : a.eval (.tmp t) = .func (.func f) #[] cap) (hargs : az.map a.eval = args)
    (h : Calls P f (args ++ cap) w fun e w' => ∃ v, e = .returned v ∧ K (a.put N v) w') : if Region.wanted oi (yielded ops a.tmps) = true then Oper.wp P oi a w K Q else K (a.put N undef) w := by
  refine call_ f (args ++ cap) hw hN ?_ h
  have he := enters_ hf hname hb (args ++ cap) w
  unfold execOp
  simp [hop, resolve, Deferred.ofValue, invoke, hv, hargs, he]
end

def zc : Array Value := #[.int .i64 0, .int .i64 0, .float .f64 0, .string (⟨#[]⟩ : ByteArray), .slice none 0 0]
def fc (v : Value) : Array Value := #[.int .i64 6, .int .i64 0, .float .f64 0, .string (⟨#[]⟩ : ByteArray), v]
def put5 (w : World) (g : Nat) (v : Value) : World := ((((w.setCell ⟨g, 0, none⟩ (.int .i64 6)).setCell ⟨g, 1, none⟩ (.int .i64 0)).setCell ⟨g, 2, none⟩ (.float .f64 0)).setCell ⟨g, 3, none⟩ (.string (⟨#[]⟩ : ByteArray))).setCell ⟨g, 4, none⟩ v
theorem put5_blk {w : World} {g : Nat} (h : w.heap[g]? = some (.cells zc 27 (0, 0))) (v : Value) : (put5 w g v).heap[g]? = some (.cells (fc v) 27 (0, 0)) :=
  blk_put (blk_put (blk_put (blk_put (blk_put h 0 _ rfl) 1 _ rfl) 2 _ rfl) 3 _ rfl) 4 _ rfl
theorem put5_far {w : World} {g g' : Nat} {cs : Array Value} {t : TypeId} (h : w.heap[g']? = some (.cells cs t (0, 0))) (hne : g' ≠ g) (v : Value) : (put5 w g v).heap[g']? = some (.cells cs t (0, 0)) :=
  blk_far (blk_far (blk_far (blk_far (blk_far h hne _) hne _) hne _) hne _) hne _
theorem put5_R {w : World} {g base : Nat} {cs : Array Value} {u : Value} {xs : List S25} (h : Kd.R k25 25 w base (fun _ => True) u xs) (hb : w.heap[g]? = some (.cells cs 27 (0, 0))) (v : Value) : Kd.R k25 25 (put5 w g v) base (fun _ => True) u xs :=
  Kd.R_mono (Kd.R_far (p := ⟨g, 4, none⟩) (Kd.R_far (p := ⟨g, 3, none⟩) (Kd.R_far (p := ⟨g, 2, none⟩) (Kd.R_far (p := ⟨g, 1, none⟩) (Kd.R_far (p := ⟨g, 0, none⟩) (Kd.R_types h hb (by decide)) (fun _ hk => hk.2) _) (fun _ hk => hk.2) _) (fun _ hk => hk.2) _) (fun _ hk => hk.2) _) (fun _ hk => hk.2) _) (fun _ _ => trivial)
theorem put5_below {W w : World} {g : Nat} (h : Below W.heap.size W w) (hg : W.heap.size ≤ g) (v : Value) : Below W.heap.size W (put5 w g v) :=
  below_set (below_set (below_set (below_set (below_set h hg) hg) hg) hg) hg

/-- What stands in the region that lays three lists out, whatever came up. -/
structure LJ (b : Nat → Bool) (W w' : World) (v20 v23 v24 v28 v29 : Value) (X B1 Y B2 Z : List S25) (g8 g9 g10 : Nat) : Prop where
  B : Below W.heap.size W w'
  h1 : b 1 = true → Kd.R k25 25 w' W.heap.size (fun _ => True) v20 X
  h4 : b 4 = true → Kd.R k25 25 w' W.heap.size (fun _ => True) v23 B1
  h5 : b 5 = true → Kd.R k25 25 w' W.heap.size (fun _ => True) v24 Y
  h9 : b 9 = true → Kd.R k25 25 w' W.heap.size (fun _ => True) v28 B2
  h10 : b 10 = true → Kd.R k25 25 w' W.heap.size (fun _ => True) v29 Z
  k8 : b 11 = true → W.heap.size ≤ g8 ∧ w'.heap[g8]? = some (.cells (if b 14 = true then fc v20 else zc) 27 (0, 0))
  k9 : b 12 = true → W.heap.size ≤ g9 ∧ w'.heap[g9]? = some (.cells (if b 15 = true then fc v24 else zc) 27 (0, 0))
  k10 : b 13 = true → W.heap.size ≤ g10 ∧ w'.heap[g10]? = some (.cells (if b 16 = true then fc v29 else zc) 27 (0, 0))
  n89 : b 11 = true → b 12 = true → g8 ≠ g9
  n8t : b 11 = true → b 13 = true → g8 ≠ g10
  n9t : b 12 = true → b 13 = true → g9 ≠ g10
section
variable {b : Nat → Bool} {W w' w'' : World} {v20 v23 v24 v28 v29 v : Value} {X B1 Y B2 Z : List S25} {g8 g9 g10 g : Nat}
theorem LJ.grow (h : LJ b W w' v20 v23 v24 v28 v29 X B1 Y B2 Z g8 g9 g10) (hb : Below w'.heap.size w' w'') : LJ b W w'' v20 v23 v24 v28 v29 X B1 Y B2 Z g8 g9 g10 :=
  ⟨below_step h.B hb, fun e => Kd.R_below (h.h1 e) hb, fun e => Kd.R_below (h.h4 e) hb, fun e => Kd.R_below (h.h5 e) hb, fun e => Kd.R_below (h.h9 e) hb, fun e => Kd.R_below (h.h10 e) hb,
   fun e => ⟨(h.k8 e).1, blk_below (h.k8 e).2 hb⟩, fun e => ⟨(h.k9 e).1, blk_below (h.k9 e).2 hb⟩, fun e => ⟨(h.k10 e).1, blk_below (h.k10 e).2 hb⟩, h.n89, h.n8t, h.n9t⟩
theorem LJ.to1 (h : LJ b W w' v20 v23 v24 v28 v29 X B1 Y B2 Z g8 g9 g10) (e14 : b 14 = false) (hn : Kd.R k25 25 w' W.heap.size (fun _ => True) v X) : LJ (up b 1) W w' v v23 v24 v28 v29 X B1 Y B2 Z g8 g9 g10 :=
  ⟨h.B, fun _ => hn, h.h4, h.h5, h.h9, h.h10, fun e => ⟨(h.k8 e).1, by have := (h.k8 e).2; rw [if_neg (by rw [e14]; decide)] at this; rw [if_neg (by rw [up_ne (by decide), e14]; decide)]; exact this⟩, h.k9, h.k10, h.n89, h.n8t, h.n9t⟩
theorem LJ.to3 (h : LJ b W w' v20 v23 v24 v28 v29 X B1 Y B2 Z g8 g9 g10) : LJ (up b 3) W w' v20 v23 v24 v28 v29 X B1 Y B2 Z g8 g9 g10 :=
  ⟨h.B, h.h1, h.h4, h.h5, h.h9, h.h10, h.k8, h.k9, h.k10, h.n89, h.n8t, h.n9t⟩
theorem LJ.to7 (h : LJ b W w' v20 v23 v24 v28 v29 X B1 Y B2 Z g8 g9 g10) : LJ (up b 7) W w' v20 v23 v24 v28 v29 X B1 Y B2 Z g8 g9 g10 :=
  ⟨h.B, h.h1, h.h4, h.h5, h.h9, h.h10, h.k8, h.k9, h.k10, h.n89, h.n8t, h.n9t⟩
theorem LJ.to8 (h : LJ b W w' v20 v23 v24 v28 v29 X B1 Y B2 Z g8 g9 g10) : LJ (up b 8) W w' v20 v23 v24 v28 v29 X B1 Y B2 Z g8 g9 g10 :=
  ⟨h.B, h.h1, h.h4, h.h5, h.h9, h.h10, h.k8, h.k9, h.k10, h.n89, h.n8t, h.n9t⟩
theorem LJ.to4 (h : LJ b W w' v20 v23 v24 v28 v29 X B1 Y B2 Z g8 g9 g10) (hn : Kd.R k25 25 w' W.heap.size (fun _ => True) v B1) : LJ (up b 4) W w' v20 v v24 v28 v29 X B1 Y B2 Z g8 g9 g10 :=
  ⟨h.B, h.h1, fun _ => hn, h.h5, h.h9, h.h10, h.k8, h.k9, h.k10, h.n89, h.n8t, h.n9t⟩
theorem LJ.to9 (h : LJ b W w' v20 v23 v24 v28 v29 X B1 Y B2 Z g8 g9 g10) (hn : Kd.R k25 25 w' W.heap.size (fun _ => True) v B2) : LJ (up b 9) W w' v20 v23 v24 v v29 X B1 Y B2 Z g8 g9 g10 :=
  ⟨h.B, h.h1, h.h4, h.h5, fun _ => hn, h.h10, h.k8, h.k9, h.k10, h.n89, h.n8t, h.n9t⟩
theorem LJ.to5 (h : LJ b W w' v20 v23 v24 v28 v29 X B1 Y B2 Z g8 g9 g10) (e15 : b 15 = false) (hn : Kd.R k25 25 w' W.heap.size (fun _ => True) v Y) : LJ (up b 5) W w' v20 v23 v v28 v29 X B1 Y B2 Z g8 g9 g10 :=
  ⟨h.B, h.h1, h.h4, fun _ => hn, h.h9, h.h10, h.k8, fun e => ⟨(h.k9 e).1, by have := (h.k9 e).2; rw [if_neg (by rw [e15]; decide)] at this; rw [if_neg (by rw [up_ne (by decide), e15]; decide)]; exact this⟩, h.k10, h.n89, h.n8t, h.n9t⟩
theorem LJ.to10 (h : LJ b W w' v20 v23 v24 v28 v29 X B1 Y B2 Z g8 g9 g10) (e16 : b 16 = false) (hn : Kd.R k25 25 w' W.heap.size (fun _ => True) v Z) : LJ (up b 10) W w' v20 v23 v24 v28 v X B1 Y B2 Z g8 g9 g10 :=
  ⟨h.B, h.h1, h.h4, h.h5, h.h9, fun _ => hn, h.k8, h.k9, fun e => ⟨(h.k10 e).1, by have := (h.k10 e).2; rw [if_neg (by rw [e16]; decide)] at this; rw [if_neg (by rw [up_ne (by decide), e16]; decide)]; exact this⟩, h.n89, h.n8t, h.n9t⟩
theorem LJ.to11 (h : LJ b W w' v20 v23 v24 v28 v29 X B1 Y B2 Z g8 g9 g10) (e14 : b 14 = false) (hg : g = w'.heap.size) (hn : w''.heap[g]? = some (.cells zc 27 (0, 0))) (hb : Below w'.heap.size w' w'') : LJ (up b 11) W w'' v20 v23 v24 v28 v29 X B1 Y B2 Z g g9 g10 :=
  have h' := h.grow hb
  ⟨h'.B, h'.h1, h'.h4, h'.h5, h'.h9, h'.h10, fun _ => ⟨by rw [hg]; exact below_size h.B, by rw [if_neg (by rw [up_ne (by decide), e14]; decide)]; exact hn⟩, h'.k9, h'.k10,
   fun _ e => by rw [hg]; exact Nat.ne_of_gt (blk_lt (h.k9 e).2), fun _ e => by rw [hg]; exact Nat.ne_of_gt (blk_lt (h.k10 e).2), h.n9t⟩
theorem LJ.to12 (h : LJ b W w' v20 v23 v24 v28 v29 X B1 Y B2 Z g8 g9 g10) (e15 : b 15 = false) (hg : g = w'.heap.size) (hn : w''.heap[g]? = some (.cells zc 27 (0, 0))) (hb : Below w'.heap.size w' w'') : LJ (up b 12) W w'' v20 v23 v24 v28 v29 X B1 Y B2 Z g8 g g10 :=
  have h' := h.grow hb
  ⟨h'.B, h'.h1, h'.h4, h'.h5, h'.h9, h'.h10, h'.k8, fun _ => ⟨by rw [hg]; exact below_size h.B, by rw [if_neg (by rw [up_ne (by decide), e15]; decide)]; exact hn⟩, h'.k10,
   fun e _ => by rw [hg]; exact Nat.ne_of_lt (blk_lt (h.k8 e).2), h.n8t, fun _ e => by rw [hg]; exact Nat.ne_of_gt (blk_lt (h.k10 e).2)⟩
theorem LJ.to13 (h : LJ b W w' v20 v23 v24 v28 v29 X B1 Y B2 Z g8 g9 g10) (e16 : b 16 = false) (hg : g = w'.heap.size) (hn : w''.heap[g]? = some (.cells zc 27 (0, 0))) (hb : Below w'.heap.size w' w'') : LJ (up b 13) W w'' v20 v23 v24 v28 v29 X B1 Y B2 Z g8 g9 g :=
  have h' := h.grow hb
  ⟨h'.B, h'.h1, h'.h4, h'.h5, h'.h9, h'.h10, h'.k8, h'.k9, fun _ => ⟨by rw [hg]; exact below_size h.B, by rw [if_neg (by rw [up_ne (by decide), e16]; decide)]; exact hn⟩,
   h.n89, fun e _ => by rw [hg]; exact Nat.ne_of_lt (blk_lt (h.k8 e).2), fun e _ => by rw [hg]; exact Nat.ne_of_lt (blk_lt (h.k9 e).2)⟩
theorem LJ.to14 (h : LJ b W w' v20 v23 v24 v28 v29 X B1 Y B2 Z g8 g9 g10) (e11 : b 11 = true) (e12 : b 12 = true) (e13 : b 13 = true) (e14 : b 14 = false) : LJ (up b 14) W (put5 w' g8 v20) v20 v23 v24 v28 v29 X B1 Y B2 Z g8 g9 g10 :=
  have k := (h.k8 e11).2
  ⟨put5_below h.B (h.k8 e11).1 _, fun e => put5_R (h.h1 e) k _, fun e => put5_R (h.h4 e) k _, fun e => put5_R (h.h5 e) k _, fun e => put5_R (h.h9 e) k _, fun e => put5_R (h.h10 e) k _,
   fun e => ⟨(h.k8 e).1, by rw [if_pos (up_self b 14)]; rw [e14] at k; exact put5_blk k _⟩, fun e => ⟨(h.k9 e).1, put5_far (h.k9 e).2 (h.n89 e11 e12).symm _⟩, fun e => ⟨(h.k10 e).1, put5_far (h.k10 e).2 (h.n8t e11 e13).symm _⟩, h.n89, h.n8t, h.n9t⟩
theorem LJ.to15 (h : LJ b W w' v20 v23 v24 v28 v29 X B1 Y B2 Z g8 g9 g10) (e11 : b 11 = true) (e12 : b 12 = true) (e13 : b 13 = true) (e15 : b 15 = false) : LJ (up b 15) W (put5 w' g9 v24) v20 v23 v24 v28 v29 X B1 Y B2 Z g8 g9 g10 :=
  have k := (h.k9 e12).2
  ⟨put5_below h.B (h.k9 e12).1 _, fun e => put5_R (h.h1 e) k _, fun e => put5_R (h.h4 e) k _, fun e => put5_R (h.h5 e) k _, fun e => put5_R (h.h9 e) k _, fun e => put5_R (h.h10 e) k _,
   fun e => ⟨(h.k8 e).1, put5_far (h.k8 e).2 (h.n89 e11 e12) _⟩, fun e => ⟨(h.k9 e).1, by rw [if_pos (up_self b 15)]; rw [e15] at k; exact put5_blk k _⟩, fun e => ⟨(h.k10 e).1, put5_far (h.k10 e).2 (h.n9t e12 e13).symm _⟩, h.n89, h.n8t, h.n9t⟩
theorem LJ.to16 (h : LJ b W w' v20 v23 v24 v28 v29 X B1 Y B2 Z g8 g9 g10) (e11 : b 11 = true) (e12 : b 12 = true) (e13 : b 13 = true) (e16 : b 16 = false) : LJ (up b 16) W (put5 w' g10 v29) v20 v23 v24 v28 v29 X B1 Y B2 Z g8 g9 g10 :=
  have k := (h.k10 e13).2
  ⟨put5_below h.B (h.k10 e13).1 _, fun e => put5_R (h.h1 e) k _, fun e => put5_R (h.h4 e) k _, fun e => put5_R (h.h5 e) k _, fun e => put5_R (h.h9 e) k _, fun e => put5_R (h.h10 e) k _,
   fun e => ⟨(h.k8 e).1, put5_far (h.k8 e).2 (h.n8t e11 e13) _⟩, fun e => ⟨(h.k9 e).1, put5_far (h.k9 e).2 (h.n9t e12 e13) _⟩, fun e => ⟨(h.k10 e).1, by rw [if_pos (up_self b 16)]; rw [e16] at k; exact put5_blk k _⟩, h.n89, h.n8t, h.n9t⟩
end
end Go.Proofs.Ytonhjpimadibaaa.P
