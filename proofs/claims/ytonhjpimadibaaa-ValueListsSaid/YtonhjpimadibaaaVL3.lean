-- ValueLists: its walk.
import Derived.Test.YtonhjpimadibaaaVL2
namespace Go.Proofs.Ytonhjpimadibaaa.P
open Go.RowKit Go.Proofs.YtonhjpimadibaaaW.PrintWords Go.Proofs.YtonhjpimadibaaaW.PrintLast Go.Proofs.YtonhjpimadibaaaW.PrintMore
attribute [local go_sem] max2_int min2_int max_two min_two max_three min_three max_four min_four
set_option linter.unusedVariables false
set_option linter.unusedSimpArgs false

theorem lists.f_eq (L l : List S25) (h : L.length + l.length < 3518437208883) : lists.f L l = some (6, 0, 0, (⟨#[]⟩ : ByteArray), L ++ l) := by
  unfold lists.f
  simp only [Option.bind_some, List.length_nil, List.nil_append, Nat.zero_add]
  rw [if_pos (by omega), if_pos h]
theorem take_C {w : World} {A : Option Addr} {l : List S25} {n : Nat} (h : Kd.C k25 w A l.length l) (hn : n < l.length) : Kd.C k25 w A (l.take n).length (l.take n) := by
  refine ⟨rfl, Nat.le_trans (by rw [List.length_take]; omega) h.2.1, fun h0 => ?_⟩
  obtain ⟨ad, e, hc⟩ := h.2.2 (by omega)
  refine ⟨ad, e, fun j p hj => hc j p ?_⟩
  rw [List.getElem?_take] at hj
  split at hj
  · exact hj
  · cases hj
def law.T4 : Bool × List (List Nat × List Nat) := (true, [([], []), ([0], [0]), ([], []), ([], []), ([3], [3]), ([2, 4, 1], [2, 4]), ([], []), ([], []), ([], []), ([7, 8], [7, 8]), ([6, 9, 5], [6, 9]), ([], []), ([], []), ([], []), ([11, 1, 10, 0, 1, 11, 12, 13], [1, 11]), ([12, 5, 14, 0, 1, 2, 3, 4, 5, 11, 12, 13, 14], [5, 12]), ([13, 10, 15, 0, 1, 2, 3, 4, 5, 6, 7, 8, 9, 10, 11, 12, 13, 14, 15], [10, 13])])
def law.B4 : List Nat := [0, 1, 0, 0, 8, 31, 0, 0, 0, 384, 1023, 0, 0, 0, 16383, 32767, 65535]
theorem law.tab4 : rtab .any (opsOf Try.f3 4) = law.T4 := by kernel_rfl
theorem law.bits4 : waitsOk law.T4.2 law.B4 = true := by kernel_rfl

set_option maxHeartbeats 8000000 in
set_option maxRecDepth 100000 in
theorem law_walk (A0 : Option Addr) (c0 : Nat) (l0 : List S25) (p0 p1 : Int) (p2 : Nat) (p3 : ByteArray) (q0 q1 : Int) (q2 : Nat) (q3 : ByteArray) (w : World) (hr0 : Kd.C k25 w A0 l0.length l0) (hc0 : l0.length ≤ c0) (k : Nat) (v1 v2 v3 : Bool) (hv1 : cobwebref03_Valid.f k 6 0 0 ⟨#[]⟩ (l0.take 14 ++ []) = some v1) (hv2 : cobwebref03_Valid.f k 6 0 0 ⟨#[]⟩ (l0.take 14 ++ [⟨p0, p1, p2, p3⟩]) = some v2) (hv3 : cobwebref03_Valid.f k 6 0 0 ⟨#[]⟩ (l0.take 14 ++ [⟨q0, q1, q2, q3⟩, ⟨p0, p1, p2, p3⟩]) = some v3)
    (hq : value_Compare.f k 2 1 0 ⟨#[]⟩ [] 2 2 0 ⟨#[]⟩ [] = some (-1))
    (hk : v1 = true → v2 = true → v3 = true → ∃ r, value_Compare.f k p0 p1 p2 p3 [] q0 q1 q2 q3 [] = some r ∧ value_Compare.f k 6 0 0 ⟨#[]⟩ (l0.take 14 ++ []) 6 0 0 ⟨#[]⟩ (l0.take 14 ++ [⟨p0, p1, p2, p3⟩]) = some (-1) ∧ value_Compare.f k 6 0 0 ⟨#[]⟩ (l0.take 14 ++ []) 6 0 0 ⟨#[]⟩ (l0.take 14 ++ []) = some 0 ∧ value_Compare.f k 6 0 0 ⟨#[]⟩ (l0.take 14 ++ [⟨p0, p1, p2, p3⟩]) 6 0 0 ⟨#[]⟩ (l0.take 14 ++ [⟨q0, q1, q2, q3⟩, ⟨p0, p1, p2, p3⟩]) = some (if r = 0 then -1 else r)) :
    Calls Try.prog 3 #[.slice A0 l0.length c0, .agg #[.int .i64 p0, .int .i64 p1, .float .f64 p2, .string p3], .agg #[.int .i64 q0, .int .i64 q1, .float .f64 q2, .string q3]] w fun e w' => e = .returned (.bool true) ∧ Below w.heap.size w w' := by
  have hu25 := Try.underlying25
  have hu27 := Try.underlying27
  have hu22 := Try.underlying22
  have hmf : ∀ (fn : Fn) (first cap : Array Value) (w : World), (Instr.makeFunc fn first cap).run Try.prog w = .ok (.func fn first cap) w := fun _ _ _ _ => rfl
  have HR0 := Aside0.mk hr0
  have HC0 := Aside0.mk hc0
  replace hv1 := Aside0.mk hv1
  replace hv2 := Aside0.mk hv2
  replace hv3 := Aside0.mk hv3
  replace hq := Aside0.mk hq
  replace hk := Aside0.mk hk
  clear hr0 hc0
  have HB := Aside0.mk (Below.refl w.heap.size w)
  by_cases c15 : (l0.length : Int) > 14
  · have c15b : decide (14 < (l0.length : Int)) = true := decide_eq_true c15
    have c15c : decide (14 < l0.length) = true := decide_eq_true (by omega)
    have hcap : 14 ≤ c0 := by have := HC0.out; omega
    go_enter Try.func3, Try.ntmps3
    go_wp2_with (first | ((with_reducible refine gate_dst (N := 3) rfl ?_); refine box_event ?hg (N := 3) ?hd (cs := #[.slice A0 l0.length c0]) (t := 22) ?hr ?_; (case hd => rfl); (case hg => rfl); (case hr => first | (go_simp; done) | (go_simp; rfl)); intro ga hg w1 hbox hb; have n1_ := Aside0.mk (below_step HB.out hb); have n2_ := Aside0.mk hbox; have n3_ := Aside0.mk ((by rw [hg]; exact below_size HB.out) : w.heap.size ≤ ga); clear HB; have HB := n1_; have BA := n2_; have GA := n3_; clear n1_ n2_ n3_ hb hbox hg) | ((with_reducible refine gate_dst (N := 4) rfl ?_); refine box_event ?hg (N := 4) ?hd (cs := #[.int .i64 p0, .int .i64 p1, .float .f64 p2, .string p3]) (t := 25) ?hr ?_; (case hd => rfl); (case hg => rfl); (case hr => first | (go_simp; done) | (go_simp; rfl)); intro gb hg w2 hbox hb; have n1_ := Aside0.mk (below_step HB.out hb); have n2_ := Aside0.mk hbox; have n3_ := Aside0.mk (blk_below BA.out hb); have n4_ := Aside0.mk ((by rw [hg]; exact Nat.ne_of_gt (blk_lt BA.out)) : gb ≠ ga); clear HB BA; have HB := n1_; have BB := n2_; have BA := n3_; have NBA := n4_; clear n1_ n2_ n3_ n4_ hb hbox hg) | ((with_reducible refine gate_dst (N := 5) rfl ?_); refine box_event ?hg (N := 5) ?hd (cs := #[.int .i64 q0, .int .i64 q1, .float .f64 q2, .string q3]) (t := 25) ?hr ?_; (case hd => rfl); (case hg => rfl); (case hr => first | (go_simp; done) | (go_simp; rfl)); intro gc hg w3 hbox hb; have n1_ := Aside0.mk (below_step HB.out hb); have n2_ := Aside0.mk hbox; have n3_ := Aside0.mk (blk_below BA.out hb); have n4_ := Aside0.mk (blk_below BB.out hb); have n5_ := Aside0.mk ((by rw [hg]; exact Nat.ne_of_gt (blk_lt BA.out)) : gc ≠ ga); clear HB BA BB; have HB := n1_; have BC := n2_; have BA := n3_; have BB := n4_; have NCA := n5_; clear n1_ n2_ n3_ n4_ n5_ hb hbox hg; have hca : w3.cell? ⟨ga, 0, none⟩ = some (.slice A0 l0.length c0) := (blk_cell BA.out 0).trans rfl; have hfa := blk_frozen BA.out 0))
    obtain ⟨L, hL⟩ : ∃ L, L = l0.take 14 := ⟨_, rfl⟩
    have hn : 14 = L.length := by rw [hL, List.length_take]; omega
    have n1_ := Aside0.mk (below_set (j := 0) (v := .slice A0 14 c0) HB.out GA.out)
    have n2_ := Aside0.mk (blk_put BA.out 0 (.slice A0 14 c0) rfl)
    have n3_ := Aside0.mk (blk_far (p := ⟨ga, 0, none⟩) BB.out NBA.out (.slice A0 14 c0))
    have n4_ := Aside0.mk (blk_far (p := ⟨ga, 0, none⟩) BC.out NCA.out (.slice A0 14 c0))
    have HRw := Aside0.mk (take_C HR0.out (n := 14) (by omega))
    rw [← hL] at HRw hv1 hv2 hv3 hk
    have HRL := HRw
    have HCL : Aside0 (L.length ≤ c0) := ⟨by omega⟩
    have HL14 : Aside0 (L.length ≤ 14) := ⟨by omega⟩
    clear HB BA BB BC
    generalize w3.setCell ⟨ga, 0, none⟩ (.slice A0 14 c0) = w4 at n1_ n2_ n3_ n4_ ⊢
    rw [hn] at n2_
    have HB := n1_
    have BA : Aside0 (w4.heap[ga]? = some (.cells #[.slice A0 L.length c0] 22 (0, 0))) := n2_
    have BB := n3_
    have BC := n4_
    clear n1_ n2_ n3_ n4_ hca hfa hL hn
    refine start_ (n := 17) (S := fun w' => True) (ds := []) #[false, false, false, false, false, false, false, false, false, false, false, false, false, false, false, false, false] (by kernel_rfl) rfl rfl trivial (fun hHeld => ?_)
    refine with_tabW law.tab4 law.bits4 (fun HT_ HW_ => ?_)
    have n1_ := Aside0.mk (below_drew1 HB.out)
    have n2_ := Aside0.mk (blk_drew BA.out)
    have n3_ := Aside0.mk (blk_drew BB.out)
    have n4_ := Aside0.mk (blk_drew BC.out)
    clear HB BA BB BC
    generalize w4.drew = w9 at n1_ n2_ n3_ n4_ hHeld ⊢
    have HB := n1_
    have BA := n2_
    have BB := n3_
    have BC := n4_
    clear n1_ n2_ n3_ n4_
    have HR9 := Aside0.mk (Kd.C_below HRL.out HB.out)
    refine pure_ (i := 0) (N := some 19) (v := ?_) (a' := ?_) #[true, false, false, false, false, false, false, false, false, false, false, false, false, false, false, false, false] rfl rfl (any_of HT_.out (by kernel_rfl)) (fun _ _ _ h => h) (Or.inl ⟨by rfl, ?_⟩) ?_ ?_
    rotate_left
    · intro w'
      go_simp
      with_reducible rfl
    rotate_left
    · simp only [Act.put, List.setIfInBounds_toArray, List.set_cons_zero, List.set_cons_succ, i64_w, i32_w]
      rfl
    refine pure_ (i := 2) (N := some 21) (v := ?_) (a' := ?_) #[true, false, true, false, false, false, false, false, false, false, false, false, false, false, false, false, false] rfl rfl (any_of HT_.out (by kernel_rfl)) (fun _ _ _ h => h) (Or.inl ⟨by rfl, ?_⟩) ?_ ?_
    rotate_left
    · intro w'
      go_simp
      with_reducible rfl
    rotate_left
    · simp only [Act.put, List.setIfInBounds_toArray, List.set_cons_zero, List.set_cons_succ, i64_w, i32_w]
      rfl
    refine pure_ (i := 6) (N := some 25) (v := ?_) (a' := ?_) #[true, false, true, false, false, false, true, false, false, false, false, false, false, false, false, false, false] rfl rfl (any_of HT_.out (by kernel_rfl)) (fun _ _ _ h => h) (Or.inl ⟨by rfl, ?_⟩) ?_ ?_
    rotate_left
    · intro w'
      go_simp
      with_reducible rfl
    rotate_left
    · simp only [Act.put, List.setIfInBounds_toArray, List.set_cons_zero, List.set_cons_succ, i64_w, i32_w]
      rfl
    refine inv_at [1, 3, 4, 5, 7, 8, 9, 10, 11, 12, 13, 14, 15, 16] (fun a0_ b a w' => ∃ (v20 v23 v24 v28 v29 : Value) (g8 g9 g10 : Nat), a = putSel a0_ b [(1, 20, .agg #[.int .i64 6, .int .i64 0, .float .f64 0, .string (⟨#[]⟩ : ByteArray), v20]), (3, 22, .agg #[.int .i64 p0, .int .i64 p1, .float .f64 p2, .string p3]), (4, 23, v23), (5, 24, .agg #[.int .i64 6, .int .i64 0, .float .f64 0, .string (⟨#[]⟩ : ByteArray), v24]), (7, 26, .agg #[.int .i64 q0, .int .i64 q1, .float .f64 q2, .string q3]), (8, 27, .agg #[.int .i64 p0, .int .i64 p1, .float .f64 p2, .string p3]), (9, 28, v28), (10, 29, .agg #[.int .i64 6, .int .i64 0, .float .f64 0, .string (⟨#[]⟩ : ByteArray), v29]), (11, 8, .pointer (some ⟨g8, 0, none⟩)), (12, 9, .pointer (some ⟨g9, 0, none⟩)), (13, 10, .pointer (some ⟨g10, 0, none⟩))] ∧ LJ b w9 w' v20 v23 v24 v28 v29 (L ++ []) [(⟨p0, p1, p2, p3⟩ : S25)] (L ++ [(⟨p0, p1, p2, p3⟩ : S25)]) [(⟨q0, q1, q2, q3⟩ : S25), (⟨p0, p1, p2, p3⟩ : S25)] (L ++ [(⟨q0, q1, q2, q3⟩ : S25), (⟨p0, p1, p2, p3⟩ : S25)]) g8 g9 g10) HT_.out HW_.out (by kernel_rfl) (by kernel_rfl) ?_ ?_ ?_
    · exact ⟨.bool false, .bool false, .bool false, .bool false, .bool false, 0, 0, 0, by simp only [putSel, Bool.false_eq_true, if_false], ⟨Below.refl _ _, fun h_ => absurd h_ (by decide), fun h_ => absurd h_ (by decide), fun h_ => absurd h_ (by decide), fun h_ => absurd h_ (by decide), fun h_ => absurd h_ (by decide), fun h_ => absurd h_ (by decide), fun h_ => absurd h_ (by decide), fun h_ => absurd h_ (by decide), fun h_ => absurd h_ (by decide), fun h_ => absurd h_ (by decide), fun h_ => absurd h_ (by decide)⟩⟩
    · refine steps_cons ?_ ?_
      · rintro b a w' ⟨v20, v23, v24, v28, v29, g8, g9, g10, ha, J⟩ hb_ hon hoff
        refine ⟨_, rfl, fun K hK => ?_⟩
        have e19 : a.tmps[19]? = some (.func (.func 4) #[] #[.pointer (some ⟨ga, 0, none⟩)]) := by rw [ha]; exact (putSel_off rfl).trans rfl
        replace ha := Aside0.mk ha
        refine goesC_ (f := 4) Try.func4 (by kernel_rfl) rfl #[.slice none 0 0] (by rfl) rfl rfl (eval_of e19) (by simp only [List.map_toArray, List.map_cons, List.map_nil, Act.eval]) ?_
        show Calls Try.prog 4 #[.slice none 0 0, .pointer (some ⟨ga, 0, none⟩)] w' _
        refine (lists.calls A0 c0 L none 0 [] ga 6 0 0 (⟨#[]⟩ : ByteArray) (L ++ []) w' (Kd.C_below HR9.out J.B) HCL.out (Kd.C_nil _ _) (Nat.le_refl _) (blk_below BA.out J.B) (lists.f_eq L _ (by have := HL14.out; simp; omega))).mono ?_
        rintro e w10 ⟨v, rfl, ho, hb⟩
        refine ⟨_, rfl, ?_⟩
        exact hK.out _ _ ⟨v, v23, v24, v28, v29, g8, g9, g10, (by rw [ha.out]; exact putSel_upk 0 hb_ rfl rfl rfl), (J.grow hb).to1 (hoff 14 (by kernel_rfl)) (Kd.R_lower ho (below_size J.B))⟩
      refine steps_cons ?_ ?_
      · rintro b a w' ⟨v20, v23, v24, v28, v29, g8, g9, g10, ha, J⟩ hb_ hon hoff
        refine ⟨_, rfl, fun K hK => ?_⟩
        have e4 : a.tmps[4]? = some (.pointer (some ⟨gb, 0, none⟩)) := by rw [ha]; exact (putSel_off rfl).trans rfl
        replace ha := Aside0.mk ha
        have hc0_ : w'.cell? ⟨gb, 0, none⟩ = some (.int .i64 p0) := (blk_cell (blk_below BB.out J.B) 0).trans rfl
        have hc1_ : w'.cell? ⟨gb, 1, none⟩ = some (.int .i64 p1) := (blk_cell (blk_below BB.out J.B) 1).trans rfl
        have hc2_ : w'.cell? ⟨gb, 2, none⟩ = some (.float .f64 p2) := (blk_cell (blk_below BB.out J.B) 2).trans rfl
        have hc3_ : w'.cell? ⟨gb, 3, none⟩ = some (.string p3) := (blk_cell (blk_below BB.out J.B) 3).trans rfl
        refine value_ (w1 := w') (v := .agg #[.int .i64 p0, .int .i64 p1, .float .f64 p2, .string p3]) (by rfl) rfl ?_ ?_
        · go_simp
          (try simp only [i64_w])
          try rfl
        exact hK.out _ _ ⟨v20, v23, v24, v28, v29, g8, g9, g10, (by rw [ha.out]; exact putSel_upk 1 hb_ rfl rfl rfl), J.to3⟩
      refine steps_cons ?_ ?_
      · rintro b a w' ⟨v20, v23, v24, v28, v29, g8, g9, g10, ha, J⟩ hb_ hon hoff
        refine ⟨_, rfl, fun K hK => ?_⟩
        have e22 : a.tmps[22]? = some (.agg #[.int .i64 p0, .int .i64 p1, .float .f64 p2, .string p3]) := by rw [ha]; exact putSel_on (e := (3, 22, .agg #[.int .i64 p0, .int .i64 p1, .float .f64 p2, .string p3])) 1 rfl rfl (hon 3 (by kernel_rfl)) rfl
        replace ha := Aside0.mk ha
        refine Kd.R_lit_step k25 _ 25 ?hg (N := 23) ?hd (xs := ([(⟨p0, p1, p2, p3⟩ : S25)] : List S25)) (inner := [.int .i64 p0, .int .i64 p1, .float .f64 p2, .string p3]) (ok := fun _ => True) (okp := fun _ => True) ?hr ?hp (fun _ hk => hk) trivial (Below.refl _ _) (Nat.le_refl _) (by simp) ?_
        case hd => rfl
        case hg => rfl
        case hr => first | (go_simp; done) | (go_simp; rfl)
        case hp => exact (Reps.c4 (show Kd.M k25 _ _ _ (⟨p0, p1, p2, p3⟩ : S25) [.int .i64 p0, .int .i64 p1, .float .f64 p2, .string p3] from (k25_mkM _ _ _ (⟨p0, p1, p2, p3⟩ : S25))) (Reps.none _ _))
        intro v w10 ho hb hg_ hnew_
        exact hK.out _ _ ⟨v20, v, v24, v28, v29, g8, g9, g10, (by rw [ha.out]; exact putSel_upk 2 hb_ rfl rfl rfl), (J.grow hb).to4 (Kd.R_lower ho (below_size J.B))⟩
      refine steps_cons ?_ ?_
      · rintro b a w' ⟨v20, v23, v24, v28, v29, g8, g9, g10, ha, J⟩ hb_ hon hoff
        refine ⟨_, rfl, fun K hK => ?_⟩
        have e21 : a.tmps[21]? = some (.func (.func 4) #[] #[.pointer (some ⟨ga, 0, none⟩)]) := by rw [ha]; exact (putSel_off rfl).trans rfl
        have e23 : a.tmps[23]? = some (v23) := by rw [ha]; exact putSel_on (e := (4, 23, v23)) 2 rfl rfl (hon 4 (by kernel_rfl)) rfl
        have hR := J.h4 (hon 4 (by kernel_rfl))
        obtain ⟨Ao, co, eo⟩ := Kd.R_slice hR
        subst eo
        replace ha := Aside0.mk ha
        refine goesC_ (f := 4) Try.func4 (by kernel_rfl) rfl #[.slice Ao [(⟨p0, p1, p2, p3⟩ : S25)].length co] (by rfl) rfl rfl (eval_of e21) (by simp only [List.map_toArray, List.map_cons, List.map_nil, eval_of e23]) ?_
        show Calls Try.prog 4 #[.slice Ao [(⟨p0, p1, p2, p3⟩ : S25)].length co, .pointer (some ⟨ga, 0, none⟩)] w' _
        refine (lists.calls A0 c0 L Ao co [(⟨p0, p1, p2, p3⟩ : S25)] ga 6 0 0 (⟨#[]⟩ : ByteArray) (L ++ [(⟨p0, p1, p2, p3⟩ : S25)]) w' (Kd.C_below HR9.out J.B) HCL.out (Kd.R_reads' hR).2.2 (Kd.R_reads' hR).2.1 (blk_below BA.out J.B) (lists.f_eq L _ (by have := HL14.out; simp; omega))).mono ?_
        rintro e w10 ⟨v, rfl, ho, hb⟩
        refine ⟨_, rfl, ?_⟩
        exact hK.out _ _ ⟨v20, .slice Ao [(⟨p0, p1, p2, p3⟩ : S25)].length co, v, v28, v29, g8, g9, g10, (by rw [ha.out]; exact putSel_upk 3 hb_ rfl rfl rfl), (J.grow hb).to5 (hoff 15 (by kernel_rfl)) (Kd.R_lower ho (below_size J.B))⟩
      refine steps_cons ?_ ?_
      · rintro b a w' ⟨v20, v23, v24, v28, v29, g8, g9, g10, ha, J⟩ hb_ hon hoff
        refine ⟨_, rfl, fun K hK => ?_⟩
        have e5 : a.tmps[5]? = some (.pointer (some ⟨gc, 0, none⟩)) := by rw [ha]; exact (putSel_off rfl).trans rfl
        replace ha := Aside0.mk ha
        have hc0_ : w'.cell? ⟨gc, 0, none⟩ = some (.int .i64 q0) := (blk_cell (blk_below BC.out J.B) 0).trans rfl
        have hc1_ : w'.cell? ⟨gc, 1, none⟩ = some (.int .i64 q1) := (blk_cell (blk_below BC.out J.B) 1).trans rfl
        have hc2_ : w'.cell? ⟨gc, 2, none⟩ = some (.float .f64 q2) := (blk_cell (blk_below BC.out J.B) 2).trans rfl
        have hc3_ : w'.cell? ⟨gc, 3, none⟩ = some (.string q3) := (blk_cell (blk_below BC.out J.B) 3).trans rfl
        refine value_ (w1 := w') (v := .agg #[.int .i64 q0, .int .i64 q1, .float .f64 q2, .string q3]) (by rfl) rfl ?_ ?_
        · go_simp
          (try simp only [i64_w])
          try rfl
        exact hK.out _ _ ⟨v20, v23, v24, v28, v29, g8, g9, g10, (by rw [ha.out]; exact putSel_upk 4 hb_ rfl rfl rfl), J.to7⟩
      refine steps_cons ?_ ?_
      · rintro b a w' ⟨v20, v23, v24, v28, v29, g8, g9, g10, ha, J⟩ hb_ hon hoff
        refine ⟨_, rfl, fun K hK => ?_⟩
        have e4 : a.tmps[4]? = some (.pointer (some ⟨gb, 0, none⟩)) := by rw [ha]; exact (putSel_off rfl).trans rfl
        replace ha := Aside0.mk ha
        have hc0_ : w'.cell? ⟨gb, 0, none⟩ = some (.int .i64 p0) := (blk_cell (blk_below BB.out J.B) 0).trans rfl
        have hc1_ : w'.cell? ⟨gb, 1, none⟩ = some (.int .i64 p1) := (blk_cell (blk_below BB.out J.B) 1).trans rfl
        have hc2_ : w'.cell? ⟨gb, 2, none⟩ = some (.float .f64 p2) := (blk_cell (blk_below BB.out J.B) 2).trans rfl
        have hc3_ : w'.cell? ⟨gb, 3, none⟩ = some (.string p3) := (blk_cell (blk_below BB.out J.B) 3).trans rfl
        refine value_ (w1 := w') (v := .agg #[.int .i64 p0, .int .i64 p1, .float .f64 p2, .string p3]) (by rfl) rfl ?_ ?_
        · go_simp
          (try simp only [i64_w])
          try rfl
        exact hK.out _ _ ⟨v20, v23, v24, v28, v29, g8, g9, g10, (by rw [ha.out]; exact putSel_upk 5 hb_ rfl rfl rfl), J.to8⟩
      refine steps_cons ?_ ?_
      · rintro b a w' ⟨v20, v23, v24, v28, v29, g8, g9, g10, ha, J⟩ hb_ hon hoff
        refine ⟨_, rfl, fun K hK => ?_⟩
        have e26 : a.tmps[26]? = some (.agg #[.int .i64 q0, .int .i64 q1, .float .f64 q2, .string q3]) := by rw [ha]; exact putSel_on (e := (7, 26, .agg #[.int .i64 q0, .int .i64 q1, .float .f64 q2, .string q3])) 4 rfl rfl (hon 7 (by kernel_rfl)) rfl
        have e27 : a.tmps[27]? = some (.agg #[.int .i64 p0, .int .i64 p1, .float .f64 p2, .string p3]) := by rw [ha]; exact putSel_on (e := (8, 27, .agg #[.int .i64 p0, .int .i64 p1, .float .f64 p2, .string p3])) 5 rfl rfl (hon 8 (by kernel_rfl)) rfl
        replace ha := Aside0.mk ha
        refine Kd.R_lit_step k25 _ 25 ?hg (N := 28) ?hd (xs := ([(⟨q0, q1, q2, q3⟩ : S25), (⟨p0, p1, p2, p3⟩ : S25)] : List S25)) (inner := [.int .i64 q0, .int .i64 q1, .float .f64 q2, .string q3, .int .i64 p0, .int .i64 p1, .float .f64 p2, .string p3]) (ok := fun _ => True) (okp := fun _ => True) ?hr ?hp (fun _ hk => hk) trivial (Below.refl _ _) (Nat.le_refl _) (by simp) ?_
        case hd => rfl
        case hg => rfl
        case hr => first | (go_simp; done) | (go_simp; rfl)
        case hp => exact (Reps.c4 (show Kd.M k25 _ _ _ (⟨q0, q1, q2, q3⟩ : S25) [.int .i64 q0, .int .i64 q1, .float .f64 q2, .string q3] from (k25_mkM _ _ _ (⟨q0, q1, q2, q3⟩ : S25))) (Reps.c4 (show Kd.M k25 _ _ _ (⟨p0, p1, p2, p3⟩ : S25) [.int .i64 p0, .int .i64 p1, .float .f64 p2, .string p3] from (k25_mkM _ _ _ (⟨p0, p1, p2, p3⟩ : S25))) (Reps.none _ _)))
        intro v w10 ho hb hg_ hnew_
        exact hK.out _ _ ⟨v20, v23, v24, v, v29, g8, g9, g10, (by rw [ha.out]; exact putSel_upk 6 hb_ rfl rfl rfl), (J.grow hb).to9 (Kd.R_lower ho (below_size J.B))⟩
      refine steps_cons ?_ ?_
      · rintro b a w' ⟨v20, v23, v24, v28, v29, g8, g9, g10, ha, J⟩ hb_ hon hoff
        refine ⟨_, rfl, fun K hK => ?_⟩
        have e25 : a.tmps[25]? = some (.func (.func 4) #[] #[.pointer (some ⟨ga, 0, none⟩)]) := by rw [ha]; exact (putSel_off rfl).trans rfl
        have e28 : a.tmps[28]? = some (v28) := by rw [ha]; exact putSel_on (e := (9, 28, v28)) 6 rfl rfl (hon 9 (by kernel_rfl)) rfl
        have hR := J.h9 (hon 9 (by kernel_rfl))
        obtain ⟨Ao, co, eo⟩ := Kd.R_slice hR
        subst eo
        replace ha := Aside0.mk ha
        refine goesC_ (f := 4) Try.func4 (by kernel_rfl) rfl #[.slice Ao [(⟨q0, q1, q2, q3⟩ : S25), (⟨p0, p1, p2, p3⟩ : S25)].length co] (by rfl) rfl rfl (eval_of e25) (by simp only [List.map_toArray, List.map_cons, List.map_nil, eval_of e28]) ?_
        show Calls Try.prog 4 #[.slice Ao [(⟨q0, q1, q2, q3⟩ : S25), (⟨p0, p1, p2, p3⟩ : S25)].length co, .pointer (some ⟨ga, 0, none⟩)] w' _
        refine (lists.calls A0 c0 L Ao co [(⟨q0, q1, q2, q3⟩ : S25), (⟨p0, p1, p2, p3⟩ : S25)] ga 6 0 0 (⟨#[]⟩ : ByteArray) (L ++ [(⟨q0, q1, q2, q3⟩ : S25), (⟨p0, p1, p2, p3⟩ : S25)]) w' (Kd.C_below HR9.out J.B) HCL.out (Kd.R_reads' hR).2.2 (Kd.R_reads' hR).2.1 (blk_below BA.out J.B) (lists.f_eq L _ (by have := HL14.out; simp; omega))).mono ?_
        rintro e w10 ⟨v, rfl, ho, hb⟩
        refine ⟨_, rfl, ?_⟩
        exact hK.out _ _ ⟨v20, v23, v24, .slice Ao [(⟨q0, q1, q2, q3⟩ : S25), (⟨p0, p1, p2, p3⟩ : S25)].length co, v, g8, g9, g10, (by rw [ha.out]; exact putSel_upk 7 hb_ rfl rfl rfl), (J.grow hb).to10 (hoff 16 (by kernel_rfl)) (Kd.R_lower ho (below_size J.B))⟩
      refine steps_cons ?_ ?_
      · rintro b a w' ⟨v20, v23, v24, v28, v29, g8, g9, g10, ha, J⟩ hb_ hon hoff
        refine ⟨_, rfl, fun K hK => ?_⟩
        replace ha := Aside0.mk ha
        refine box_step ?hg (N := 8) ?hd (cs := zc) (t := 27) ?hr ?_
        case hd => rfl
        case hg => rfl
        case hr => first | (go_simp; done) | (go_simp; rfl)
        intro g hg w10 hbox hb
        exact hK.out _ _ ⟨v20, v23, v24, v28, v29, g, g9, g10, (by rw [ha.out]; exact putSel_upk 8 hb_ rfl rfl rfl), J.to11 (hoff 14 (by kernel_rfl)) hg hbox hb⟩
      refine steps_cons ?_ ?_
      · rintro b a w' ⟨v20, v23, v24, v28, v29, g8, g9, g10, ha, J⟩ hb_ hon hoff
        refine ⟨_, rfl, fun K hK => ?_⟩
        replace ha := Aside0.mk ha
        refine box_step ?hg (N := 9) ?hd (cs := zc) (t := 27) ?hr ?_
        case hd => rfl
        case hg => rfl
        case hr => first | (go_simp; done) | (go_simp; rfl)
        intro g hg w10 hbox hb
        exact hK.out _ _ ⟨v20, v23, v24, v28, v29, g8, g, g10, (by rw [ha.out]; exact putSel_upk 9 hb_ rfl rfl rfl), J.to12 (hoff 15 (by kernel_rfl)) hg hbox hb⟩
      refine steps_cons ?_ ?_
      · rintro b a w' ⟨v20, v23, v24, v28, v29, g8, g9, g10, ha, J⟩ hb_ hon hoff
        refine ⟨_, rfl, fun K hK => ?_⟩
        replace ha := Aside0.mk ha
        refine box_step ?hg (N := 10) ?hd (cs := zc) (t := 27) ?hr ?_
        case hd => rfl
        case hg => rfl
        case hr => first | (go_simp; done) | (go_simp; rfl)
        intro g hg w10 hbox hb
        exact hK.out _ _ ⟨v20, v23, v24, v28, v29, g8, g9, g, (by rw [ha.out]; exact putSel_upk 10 hb_ rfl rfl rfl), J.to13 (hoff 16 (by kernel_rfl)) hg hbox hb⟩
      refine steps_cons ?_ ?_
      · rintro b a w' ⟨v20, v23, v24, v28, v29, g8, g9, g10, ha, J⟩ hb_ hon hoff
        refine ⟨_, rfl, fun K hK => ?_⟩
        have e8 : a.tmps[8]? = some (.pointer (some ⟨g8, 0, none⟩)) := by rw [ha]; exact putSel_on (e := (11, 8, .pointer (some ⟨g8, 0, none⟩))) 8 rfl rfl (hon 11 (by kernel_rfl)) rfl
        have e20 : a.tmps[20]? = some (.agg #[.int .i64 6, .int .i64 0, .float .f64 0, .string (⟨#[]⟩ : ByteArray), v20]) := by rw [ha]; exact putSel_on (e := (1, 20, .agg #[.int .i64 6, .int .i64 0, .float .f64 0, .string (⟨#[]⟩ : ByteArray), v20])) 0 rfl rfl (hon 1 (by kernel_rfl)) rfl
        replace ha := Aside0.mk ha
        have o1 := hon 1 (by kernel_rfl)
        have o5 := hon 5 (by kernel_rfl)
        have o10 := hon 10 (by kernel_rfl)
        have o11 := hon 11 (by kernel_rfl)
        have o12 := hon 12 (by kernel_rfl)
        have o13 := hon 13 (by kernel_rfl)
        have hk := (J.k8 o11).2
        rw [if_neg (by rw [hb_]; decide)] at hk
        obtain ⟨Av, cv, ev⟩ := Kd.R_slice (J.h1 o1)
        subst ev
        have hs0 : w'.cell? ⟨g8, 0, none⟩ = some (.int .i64 0) := (blk_cell hk 0).trans rfl
        have hf0 := blk_frozen hk 0
        have hs1 : w'.cell? ⟨g8, 1, none⟩ = some (.int .i64 0) := (blk_cell hk 1).trans rfl
        have hf1 := blk_frozen hk 1
        have hs2 : w'.cell? ⟨g8, 2, none⟩ = some (.float .f64 0) := (blk_cell hk 2).trans rfl
        have hf2 := blk_frozen hk 2
        have hs3 : w'.cell? ⟨g8, 3, none⟩ = some (.string (⟨#[]⟩ : ByteArray)) := (blk_cell hk 3).trans rfl
        have hf3 := blk_frozen hk 3
        have hs4 : w'.cell? ⟨g8, 4, none⟩ = some (.slice none 0 0) := (blk_cell hk 4).trans rfl
        have hf4 := blk_frozen hk 4
        refine skip_ (w1 := put5 w' g8 (.slice Av (L ++ []).length cv)) (by rfl) rfl ?_ ?_
        · unfold put5
          go_simp
          try rfl
        exact hK.out _ _ ⟨.slice Av (L ++ []).length cv, v23, v24, v28, v29, g8, g9, g10, (by rw [ha.out]; exact putSel_none (v := undef) rfl), J.to14 o11 o12 o13 hb_⟩
      refine steps_cons ?_ ?_
      · rintro b a w' ⟨v20, v23, v24, v28, v29, g8, g9, g10, ha, J⟩ hb_ hon hoff
        refine ⟨_, rfl, fun K hK => ?_⟩
        have e9 : a.tmps[9]? = some (.pointer (some ⟨g9, 0, none⟩)) := by rw [ha]; exact putSel_on (e := (12, 9, .pointer (some ⟨g9, 0, none⟩))) 9 rfl rfl (hon 12 (by kernel_rfl)) rfl
        have e24 : a.tmps[24]? = some (.agg #[.int .i64 6, .int .i64 0, .float .f64 0, .string (⟨#[]⟩ : ByteArray), v24]) := by rw [ha]; exact putSel_on (e := (5, 24, .agg #[.int .i64 6, .int .i64 0, .float .f64 0, .string (⟨#[]⟩ : ByteArray), v24])) 3 rfl rfl (hon 5 (by kernel_rfl)) rfl
        replace ha := Aside0.mk ha
        have o1 := hon 1 (by kernel_rfl)
        have o5 := hon 5 (by kernel_rfl)
        have o10 := hon 10 (by kernel_rfl)
        have o11 := hon 11 (by kernel_rfl)
        have o12 := hon 12 (by kernel_rfl)
        have o13 := hon 13 (by kernel_rfl)
        have hk := (J.k9 o12).2
        rw [if_neg (by rw [hb_]; decide)] at hk
        obtain ⟨Av, cv, ev⟩ := Kd.R_slice (J.h5 o5)
        subst ev
        have hs0 : w'.cell? ⟨g9, 0, none⟩ = some (.int .i64 0) := (blk_cell hk 0).trans rfl
        have hf0 := blk_frozen hk 0
        have hs1 : w'.cell? ⟨g9, 1, none⟩ = some (.int .i64 0) := (blk_cell hk 1).trans rfl
        have hf1 := blk_frozen hk 1
        have hs2 : w'.cell? ⟨g9, 2, none⟩ = some (.float .f64 0) := (blk_cell hk 2).trans rfl
        have hf2 := blk_frozen hk 2
        have hs3 : w'.cell? ⟨g9, 3, none⟩ = some (.string (⟨#[]⟩ : ByteArray)) := (blk_cell hk 3).trans rfl
        have hf3 := blk_frozen hk 3
        have hs4 : w'.cell? ⟨g9, 4, none⟩ = some (.slice none 0 0) := (blk_cell hk 4).trans rfl
        have hf4 := blk_frozen hk 4
        refine skip_ (w1 := put5 w' g9 (.slice Av (L ++ [(⟨p0, p1, p2, p3⟩ : S25)]).length cv)) (by rfl) rfl ?_ ?_
        · unfold put5
          go_simp
          try rfl
        exact hK.out _ _ ⟨v20, v23, .slice Av (L ++ [(⟨p0, p1, p2, p3⟩ : S25)]).length cv, v28, v29, g8, g9, g10, (by rw [ha.out]; exact putSel_none (v := undef) rfl), J.to15 o11 o12 o13 hb_⟩
      refine steps_cons ?_ ?_
      · rintro b a w' ⟨v20, v23, v24, v28, v29, g8, g9, g10, ha, J⟩ hb_ hon hoff
        refine ⟨_, rfl, fun K hK => ?_⟩
        have e10 : a.tmps[10]? = some (.pointer (some ⟨g10, 0, none⟩)) := by rw [ha]; exact putSel_on (e := (13, 10, .pointer (some ⟨g10, 0, none⟩))) 10 rfl rfl (hon 13 (by kernel_rfl)) rfl
        have e29 : a.tmps[29]? = some (.agg #[.int .i64 6, .int .i64 0, .float .f64 0, .string (⟨#[]⟩ : ByteArray), v29]) := by rw [ha]; exact putSel_on (e := (10, 29, .agg #[.int .i64 6, .int .i64 0, .float .f64 0, .string (⟨#[]⟩ : ByteArray), v29])) 7 rfl rfl (hon 10 (by kernel_rfl)) rfl
        replace ha := Aside0.mk ha
        have o1 := hon 1 (by kernel_rfl)
        have o5 := hon 5 (by kernel_rfl)
        have o10 := hon 10 (by kernel_rfl)
        have o11 := hon 11 (by kernel_rfl)
        have o12 := hon 12 (by kernel_rfl)
        have o13 := hon 13 (by kernel_rfl)
        have hk := (J.k10 o13).2
        rw [if_neg (by rw [hb_]; decide)] at hk
        obtain ⟨Av, cv, ev⟩ := Kd.R_slice (J.h10 o10)
        subst ev
        have hs0 : w'.cell? ⟨g10, 0, none⟩ = some (.int .i64 0) := (blk_cell hk 0).trans rfl
        have hf0 := blk_frozen hk 0
        have hs1 : w'.cell? ⟨g10, 1, none⟩ = some (.int .i64 0) := (blk_cell hk 1).trans rfl
        have hf1 := blk_frozen hk 1
        have hs2 : w'.cell? ⟨g10, 2, none⟩ = some (.float .f64 0) := (blk_cell hk 2).trans rfl
        have hf2 := blk_frozen hk 2
        have hs3 : w'.cell? ⟨g10, 3, none⟩ = some (.string (⟨#[]⟩ : ByteArray)) := (blk_cell hk 3).trans rfl
        have hf3 := blk_frozen hk 3
        have hs4 : w'.cell? ⟨g10, 4, none⟩ = some (.slice none 0 0) := (blk_cell hk 4).trans rfl
        have hf4 := blk_frozen hk 4
        refine skip_ (w1 := put5 w' g10 (.slice Av (L ++ [(⟨q0, q1, q2, q3⟩ : S25), (⟨p0, p1, p2, p3⟩ : S25)]).length cv)) (by rfl) rfl ?_ ?_
        · unfold put5
          go_simp
          try rfl
        exact hK.out _ _ ⟨v20, v23, v24, v28, .slice Av (L ++ [(⟨q0, q1, q2, q3⟩ : S25), (⟨p0, p1, p2, p3⟩ : S25)]).length cv, g8, g9, g10, (by rw [ha.out]; exact putSel_none (v := undef) rfl), J.to16 o11 o12 o13 hb_⟩
      exact steps_nil
    rintro b a w10 hall ⟨v20, v23, v24, v28, v29, g8, g9, g10, ha, J⟩
    have hb1_ := hall 1 (by kernel_rfl)
    have hb3_ := hall 3 (by kernel_rfl)
    have hb4_ := hall 4 (by kernel_rfl)
    have hb5_ := hall 5 (by kernel_rfl)
    have hb7_ := hall 7 (by kernel_rfl)
    have hb8_ := hall 8 (by kernel_rfl)
    have hb9_ := hall 9 (by kernel_rfl)
    have hb10_ := hall 10 (by kernel_rfl)
    have hb11_ := hall 11 (by kernel_rfl)
    have hb12_ := hall 12 (by kernel_rfl)
    have hb13_ := hall 13 (by kernel_rfl)
    have hb14_ := hall 14 (by kernel_rfl)
    have hb15_ := hall 15 (by kernel_rfl)
    have hb16_ := hall 16 (by kernel_rfl)
    subst ha
    simp only [putSel, hb1_, hb3_, hb4_, hb5_, hb7_, hb8_, hb9_, hb10_, hb11_, hb12_, hb13_, hb14_, hb15_, hb16_, if_true, Act.put, List.setIfInBounds_toArray, List.set_cons_zero, List.set_cons_succ]
    have n1_ := Aside0.mk (below_step HB.out J.B)
    have n2_ := Aside0.mk (blk_below BA.out J.B)
    have n3_ := Aside0.mk (blk_below BB.out J.B)
    have n4_ := Aside0.mk (blk_below BC.out J.B)
    obtain ⟨A1, c1, e1⟩ := Kd.R_slice (J.h1 hb1_)
    subst e1
    have HX1 := Aside0.mk (Kd.R_reads' (J.h1 hb1_)).2.2
    have HS1 := Aside0.mk (Kd.R_reads' (J.h1 hb1_)).2.1
    have hk11 := (J.k8 hb11_).2
    rw [if_pos hb14_] at hk11
    have BK11 := Aside0.mk hk11
    clear hk11
    obtain ⟨A5, c5, e5⟩ := Kd.R_slice (J.h5 hb5_)
    subst e5
    have HX5 := Aside0.mk (Kd.R_reads' (J.h5 hb5_)).2.2
    have HS5 := Aside0.mk (Kd.R_reads' (J.h5 hb5_)).2.1
    have hk12 := (J.k9 hb12_).2
    rw [if_pos hb15_] at hk12
    have BK12 := Aside0.mk hk12
    clear hk12
    obtain ⟨A10, c10, e10⟩ := Kd.R_slice (J.h10 hb10_)
    subst e10
    have HX10 := Aside0.mk (Kd.R_reads' (J.h10 hb10_)).2.2
    have HS10 := Aside0.mk (Kd.R_reads' (J.h10 hb10_)).2.1
    have hk13 := (J.k10 hb13_).2
    rw [if_pos hb16_] at hk13
    have BK13 := Aside0.mk hk13
    clear hk13
    clear J hall HB BA BB BC HR9 HRL
    have HB := n1_
    have BA := n2_
    have BB := n3_
    have BC := n4_
    clear n1_ n2_ n3_ n4_ hHeld HT_ HW_
    clear hb1_ hb3_ hb4_ hb5_ hb7_ hb8_ hb9_ hb10_ hb11_ hb12_ hb13_ hb14_ hb15_ hb16_
    have HRL : Aside0 (Kd.C k25 w10 A0 L.length L) := ⟨Kd.C_below HRw.out HB.out⟩
    generalize ((L ++ []) : List S25) = X at HX1 HS1 BK11 hv1 hk
    generalize ((L ++ [(⟨p0, p1, p2, p3⟩ : S25)]) : List S25) = Y at HX5 HS5 BK12 hv2 hk
    generalize ((L ++ [(⟨q0, q1, q2, q3⟩ : S25), (⟨p0, p1, p2, p3⟩ : S25)]) : List S25) = Z at HX10 HS10 BK13 hv3 hk
    try go_wp2
    go_loopg [11] L.length (fun kq v11 w' => ∃ i : Int, v11 = .int .i64 i ∧ Aside0 (0 ≤ i ∧ i + kq = L.length) ∧ Aside0 (Below w10.heap.size w10 w'))
    case atStart => exact ⟨0, rfl, ⟨by omega⟩, ⟨Below.refl _ _⟩⟩
    case round =>
      obtain ⟨i, rfl, HI, HQ⟩ := hrel
      have HQ' := HQ.out
      have hi0 := HI.out.1
      have hca : wr.cell? ⟨ga, 0, none⟩ = some (.slice A0 L.length c0) := (blk_cell (blk_below BA.out HQ.out) 0).trans rfl
      by_cases c : i < (L.length : Int)
      · have cb : decide (i < (L.length : Int)) = true := decide_eq_true c
        obtain ⟨ad, e, hx0, hx1, hx2, hx3⟩ := at_T25 (Kd.C_below HRL.out HQ.out) i hi0 c
        cases e
        have p := eq_true hi0
        have q := eq_true c
        by_cases d : ((rd_T25 L i).f3.size : Int) > 256
        · have db : decide (256 < ((rd_T25 L i).f3.size : Int)) = true := decide_eq_true d
          have dc : decide (256 < (rd_T25 L i).f3.size) = true := decide_eq_true (by omega)
          go_wp2
          go_ret
          exact ⟨rfl, by (with_reducible repeat (first | apply below_alloc | apply pw_below_drewN | apply below_drew1)); exact below_step HB.out HQ.out⟩
        · have db : decide (256 < ((rd_T25 L i).f3.size : Int)) = false := decide_eq_false d
          have dc : decide (256 < (rd_T25 L i).f3.size) = false := decide_eq_false (by omega)
          have hw : wrap64 (i + 1) = i + 1 := by have := HL14.out; unfold wrap64; omega
          go_wp2
          go_roundg (gk - 1)
          case measure => have := HI.out; omega
          case rel => exact ⟨i + 1, (by first | rfl | simp [i64_w, hw]), ⟨by have := HI.out; omega⟩, ⟨by (with_reducible repeat (first | apply below_alloc | apply pw_below_drewN | apply below_drew1)); exact HQ.out⟩⟩
      · have cb : decide (i < (L.length : Int)) = false := decide_eq_false c
        go_upto_region 10 with (fail)
        have hcl1 : wr.cell? ⟨gb, 0, none⟩ = some (.int .i64 p0) := (blk_cell (blk_below BB.out HQ.out) 0).trans rfl
        have hcl2 : wr.cell? ⟨gb, 1, none⟩ = some (.int .i64 p1) := (blk_cell (blk_below BB.out HQ.out) 1).trans rfl
        have hcl3 : wr.cell? ⟨gb, 2, none⟩ = some (.float .f64 p2) := (blk_cell (blk_below BB.out HQ.out) 2).trans rfl
        have hcl4 : wr.cell? ⟨gb, 3, none⟩ = some (.string p3) := (blk_cell (blk_below BB.out HQ.out) 3).trans rfl
        have hcl5 : wr.cell? ⟨gc, 0, none⟩ = some (.int .i64 q0) := (blk_cell (blk_below BC.out HQ.out) 0).trans rfl
        have hcl6 : wr.cell? ⟨gc, 1, none⟩ = some (.int .i64 q1) := (blk_cell (blk_below BC.out HQ.out) 1).trans rfl
        have hcl7 : wr.cell? ⟨gc, 2, none⟩ = some (.float .f64 q2) := (blk_cell (blk_below BC.out HQ.out) 2).trans rfl
        have hcl8 : wr.cell? ⟨gc, 3, none⟩ = some (.string q3) := (blk_cell (blk_below BC.out HQ.out) 3).trans rfl
        have hcl9 : wr.cell? ⟨g8, 0, none⟩ = some (.int .i64 6) := (blk_cell (blk_below BK11.out HQ.out) 0).trans rfl
        have hcl10 : wr.cell? ⟨g8, 1, none⟩ = some (.int .i64 0) := (blk_cell (blk_below BK11.out HQ.out) 1).trans rfl
        have hcl11 : wr.cell? ⟨g8, 2, none⟩ = some (.float .f64 0) := (blk_cell (blk_below BK11.out HQ.out) 2).trans rfl
        have hcl12 : wr.cell? ⟨g8, 3, none⟩ = some (.string (⟨#[]⟩ : ByteArray)) := (blk_cell (blk_below BK11.out HQ.out) 3).trans rfl
        have hcl13 : wr.cell? ⟨g8, 4, none⟩ = some (.slice A1 X.length c1) := (blk_cell (blk_below BK11.out HQ.out) 4).trans rfl
        by_cases d1 : (p3.size : Int) > 256
        · have d1b : decide (256 < (p3.size : Int)) = true := decide_eq_true d1
          have d1c : decide (256 < p3.size) = true := decide_eq_true (by omega)
          go_wp2_with (first | (go_at_call 7; (with_reducible refine (value_OfInt.calls 1 2 1 0 (⟨#[]⟩ : ByteArray) [] _ rfl).mono ?_); rintro e w22 ⟨v1_, rfl, ho, hb⟩; obtain ⟨Ai1, ci1, ei1⟩ := Kd.R_slice ho; subst ei1; have HI1 := Aside0.mk (Kd.R_reads' ho).2.2; have HJ1 := Aside0.mk (Kd.R_reads' ho).2.1; have n1_ := Aside0.mk (below_step HQ.out hb); clear HQ; have HQ := n1_; clear n1_ hb ho) | (go_at_call 7; (with_reducible refine (value_OfInt.calls 2 2 2 0 (⟨#[]⟩ : ByteArray) [] _ rfl).mono ?_); rintro e w23 ⟨v2_, rfl, ho, hb⟩; obtain ⟨Ai2, ci2, ei2⟩ := Kd.R_slice ho; subst ei2; have HI2 := Aside0.mk (Kd.R_reads' ho).2.2; have HJ2 := Aside0.mk (Kd.R_reads' ho).2.1; have n2_ := Aside0.mk (Kd.C_below HI1.out hb); clear HI1; have HI1 := n2_; clear n2_; have n1_ := Aside0.mk (below_step HQ.out hb); clear HQ; have HQ := n1_; clear n1_ hb ho) | (go_at_call 6; (refine (value_Compare.calls k 2 1 0 (⟨#[]⟩ : ByteArray) Ai1 ci1 [] 2 2 0 (⟨#[]⟩ : ByteArray) Ai2 ci2 [] (-1) _ HI1.out HJ1.out HI2.out HJ2.out hq.out).mono ?_); rintro e w21 ⟨rfl, hb⟩; have n1_ := Aside0.mk (below_step HQ.out hb); clear HQ; have HQ := n1_; clear n1_ hb))
          go_ret
          exact ⟨rfl, by (with_reducible repeat (first | apply below_alloc | apply pw_below_drewN | apply below_drew1)); exact below_step HB.out HQ.out⟩
        · have d1b : decide (256 < (p3.size : Int)) = false := decide_eq_false d1
          have d1c : decide (256 < p3.size) = false := decide_eq_false (by omega)
          by_cases d2 : (q3.size : Int) > 256
          · have d2b : decide (256 < (q3.size : Int)) = true := decide_eq_true d2
            have d2c : decide (256 < q3.size) = true := decide_eq_true (by omega)
            go_wp2_with (first | (go_at_call 7; (with_reducible refine (value_OfInt.calls 1 2 1 0 (⟨#[]⟩ : ByteArray) [] _ rfl).mono ?_); rintro e w25 ⟨v1_, rfl, ho, hb⟩; obtain ⟨Ai1, ci1, ei1⟩ := Kd.R_slice ho; subst ei1; have HI1 := Aside0.mk (Kd.R_reads' ho).2.2; have HJ1 := Aside0.mk (Kd.R_reads' ho).2.1; have n1_ := Aside0.mk (below_step HQ.out hb); clear HQ; have HQ := n1_; clear n1_ hb ho) | (go_at_call 7; (with_reducible refine (value_OfInt.calls 2 2 2 0 (⟨#[]⟩ : ByteArray) [] _ rfl).mono ?_); rintro e w26 ⟨v2_, rfl, ho, hb⟩; obtain ⟨Ai2, ci2, ei2⟩ := Kd.R_slice ho; subst ei2; have HI2 := Aside0.mk (Kd.R_reads' ho).2.2; have HJ2 := Aside0.mk (Kd.R_reads' ho).2.1; have n2_ := Aside0.mk (Kd.C_below HI1.out hb); clear HI1; have HI1 := n2_; clear n2_; have n1_ := Aside0.mk (below_step HQ.out hb); clear HQ; have HQ := n1_; clear n1_ hb ho) | (go_at_call 6; (refine (value_Compare.calls k 2 1 0 (⟨#[]⟩ : ByteArray) Ai1 ci1 [] 2 2 0 (⟨#[]⟩ : ByteArray) Ai2 ci2 [] (-1) _ HI1.out HJ1.out HI2.out HJ2.out hq.out).mono ?_); rintro e w24 ⟨rfl, hb⟩; have n1_ := Aside0.mk (below_step HQ.out hb); clear HQ; have HQ := n1_; clear n1_ hb))
            go_ret
            exact ⟨rfl, by (with_reducible repeat (first | apply below_alloc | apply pw_below_drewN | apply below_drew1)); exact below_step HB.out HQ.out⟩
          · have d2b : decide (256 < (q3.size : Int)) = false := decide_eq_false d2
            have d2c : decide (256 < q3.size) = false := decide_eq_false (by omega)
            cases v1 with
            | false =>
              go_wp2_with (first | (go_at_call 5; (with_reducible refine (cobwebref03_Valid.calls k 6 0 0 (⟨#[]⟩ : ByteArray) A1 c1 X false _ (Kd.C_below HX1.out HQ.out) HS1.out hv1.out).mono ?_); rintro e w27 ⟨rfl, hb⟩; have n1_ := Aside0.mk (below_step HQ.out hb); clear HQ; have HQ := n1_; clear n1_ hb; ) | (go_at_call 7; (with_reducible refine (value_OfInt.calls 1 2 1 0 (⟨#[]⟩ : ByteArray) [] _ rfl).mono ?_); rintro e w29 ⟨v1_, rfl, ho, hb⟩; obtain ⟨Ai1, ci1, ei1⟩ := Kd.R_slice ho; subst ei1; have HI1 := Aside0.mk (Kd.R_reads' ho).2.2; have HJ1 := Aside0.mk (Kd.R_reads' ho).2.1; have n1_ := Aside0.mk (below_step HQ.out hb); clear HQ; have HQ := n1_; clear n1_ hb ho) | (go_at_call 7; (with_reducible refine (value_OfInt.calls 2 2 2 0 (⟨#[]⟩ : ByteArray) [] _ rfl).mono ?_); rintro e w30 ⟨v2_, rfl, ho, hb⟩; obtain ⟨Ai2, ci2, ei2⟩ := Kd.R_slice ho; subst ei2; have HI2 := Aside0.mk (Kd.R_reads' ho).2.2; have HJ2 := Aside0.mk (Kd.R_reads' ho).2.1; have n2_ := Aside0.mk (Kd.C_below HI1.out hb); clear HI1; have HI1 := n2_; clear n2_; have n1_ := Aside0.mk (below_step HQ.out hb); clear HQ; have HQ := n1_; clear n1_ hb ho) | (go_at_call 6; (refine (value_Compare.calls k 2 1 0 (⟨#[]⟩ : ByteArray) Ai1 ci1 [] 2 2 0 (⟨#[]⟩ : ByteArray) Ai2 ci2 [] (-1) _ HI1.out HJ1.out HI2.out HJ2.out hq.out).mono ?_); rintro e w28 ⟨rfl, hb⟩; have n1_ := Aside0.mk (below_step HQ.out hb); clear HQ; have HQ := n1_; clear n1_ hb))
              go_ret
              exact ⟨rfl, by (with_reducible repeat (first | apply below_alloc | apply pw_below_drewN | apply below_drew1)); exact below_step HB.out HQ.out⟩
            | true =>
              cases v2 with
              | false =>
                go_wp2_with (first | (go_at_call 5; (with_reducible refine (cobwebref03_Valid.calls k 6 0 0 (⟨#[]⟩ : ByteArray) A1 c1 X true _ (Kd.C_below HX1.out HQ.out) HS1.out hv1.out).mono ?_); rintro e w31 ⟨rfl, hb⟩; have n1_ := Aside0.mk (below_step HQ.out hb); clear HQ; have HQ := n1_; clear n1_ hb; have hcl14 : w31.cell? ⟨g9, 0, none⟩ = some (.int .i64 6) := (blk_cell (blk_below BK12.out HQ.out) 0).trans rfl; have hcl15 : w31.cell? ⟨g9, 1, none⟩ = some (.int .i64 0) := (blk_cell (blk_below BK12.out HQ.out) 1).trans rfl; have hcl16 : w31.cell? ⟨g9, 2, none⟩ = some (.float .f64 0) := (blk_cell (blk_below BK12.out HQ.out) 2).trans rfl; have hcl17 : w31.cell? ⟨g9, 3, none⟩ = some (.string (⟨#[]⟩ : ByteArray)) := (blk_cell (blk_below BK12.out HQ.out) 3).trans rfl; have hcl18 : w31.cell? ⟨g9, 4, none⟩ = some (.slice A5 Y.length c5) := (blk_cell (blk_below BK12.out HQ.out) 4).trans rfl) | (go_at_call 5; (with_reducible refine (cobwebref03_Valid.calls k 6 0 0 (⟨#[]⟩ : ByteArray) A5 c5 Y false _ (Kd.C_below HX5.out HQ.out) HS5.out hv2.out).mono ?_); rintro e w32 ⟨rfl, hb⟩; have n1_ := Aside0.mk (below_step HQ.out hb); clear HQ; have HQ := n1_; clear n1_ hb; ) | (go_at_call 7; (with_reducible refine (value_OfInt.calls 1 2 1 0 (⟨#[]⟩ : ByteArray) [] _ rfl).mono ?_); rintro e w34 ⟨v1_, rfl, ho, hb⟩; obtain ⟨Ai1, ci1, ei1⟩ := Kd.R_slice ho; subst ei1; have HI1 := Aside0.mk (Kd.R_reads' ho).2.2; have HJ1 := Aside0.mk (Kd.R_reads' ho).2.1; have n1_ := Aside0.mk (below_step HQ.out hb); clear HQ; have HQ := n1_; clear n1_ hb ho) | (go_at_call 7; (with_reducible refine (value_OfInt.calls 2 2 2 0 (⟨#[]⟩ : ByteArray) [] _ rfl).mono ?_); rintro e w35 ⟨v2_, rfl, ho, hb⟩; obtain ⟨Ai2, ci2, ei2⟩ := Kd.R_slice ho; subst ei2; have HI2 := Aside0.mk (Kd.R_reads' ho).2.2; have HJ2 := Aside0.mk (Kd.R_reads' ho).2.1; have n2_ := Aside0.mk (Kd.C_below HI1.out hb); clear HI1; have HI1 := n2_; clear n2_; have n1_ := Aside0.mk (below_step HQ.out hb); clear HQ; have HQ := n1_; clear n1_ hb ho) | (go_at_call 6; (refine (value_Compare.calls k 2 1 0 (⟨#[]⟩ : ByteArray) Ai1 ci1 [] 2 2 0 (⟨#[]⟩ : ByteArray) Ai2 ci2 [] (-1) _ HI1.out HJ1.out HI2.out HJ2.out hq.out).mono ?_); rintro e w33 ⟨rfl, hb⟩; have n1_ := Aside0.mk (below_step HQ.out hb); clear HQ; have HQ := n1_; clear n1_ hb))
                go_ret
                exact ⟨rfl, by (with_reducible repeat (first | apply below_alloc | apply pw_below_drewN | apply below_drew1)); exact below_step HB.out HQ.out⟩
              | true =>
                cases v3 with
                | false =>
                  go_wp2_with (first | (go_at_call 5; (with_reducible refine (cobwebref03_Valid.calls k 6 0 0 (⟨#[]⟩ : ByteArray) A1 c1 X true _ (Kd.C_below HX1.out HQ.out) HS1.out hv1.out).mono ?_); rintro e w36 ⟨rfl, hb⟩; have n1_ := Aside0.mk (below_step HQ.out hb); clear HQ; have HQ := n1_; clear n1_ hb; have hcl19 : w36.cell? ⟨g9, 0, none⟩ = some (.int .i64 6) := (blk_cell (blk_below BK12.out HQ.out) 0).trans rfl; have hcl20 : w36.cell? ⟨g9, 1, none⟩ = some (.int .i64 0) := (blk_cell (blk_below BK12.out HQ.out) 1).trans rfl; have hcl21 : w36.cell? ⟨g9, 2, none⟩ = some (.float .f64 0) := (blk_cell (blk_below BK12.out HQ.out) 2).trans rfl; have hcl22 : w36.cell? ⟨g9, 3, none⟩ = some (.string (⟨#[]⟩ : ByteArray)) := (blk_cell (blk_below BK12.out HQ.out) 3).trans rfl; have hcl23 : w36.cell? ⟨g9, 4, none⟩ = some (.slice A5 Y.length c5) := (blk_cell (blk_below BK12.out HQ.out) 4).trans rfl) | (go_at_call 5; (with_reducible refine (cobwebref03_Valid.calls k 6 0 0 (⟨#[]⟩ : ByteArray) A5 c5 Y true _ (Kd.C_below HX5.out HQ.out) HS5.out hv2.out).mono ?_); rintro e w37 ⟨rfl, hb⟩; have n1_ := Aside0.mk (below_step HQ.out hb); clear HQ; have HQ := n1_; clear n1_ hb; have hcl24 : w37.cell? ⟨g10, 0, none⟩ = some (.int .i64 6) := (blk_cell (blk_below BK13.out HQ.out) 0).trans rfl; have hcl25 : w37.cell? ⟨g10, 1, none⟩ = some (.int .i64 0) := (blk_cell (blk_below BK13.out HQ.out) 1).trans rfl; have hcl26 : w37.cell? ⟨g10, 2, none⟩ = some (.float .f64 0) := (blk_cell (blk_below BK13.out HQ.out) 2).trans rfl; have hcl27 : w37.cell? ⟨g10, 3, none⟩ = some (.string (⟨#[]⟩ : ByteArray)) := (blk_cell (blk_below BK13.out HQ.out) 3).trans rfl; have hcl28 : w37.cell? ⟨g10, 4, none⟩ = some (.slice A10 Z.length c10) := (blk_cell (blk_below BK13.out HQ.out) 4).trans rfl) | (go_at_call 5; (with_reducible refine (cobwebref03_Valid.calls k 6 0 0 (⟨#[]⟩ : ByteArray) A10 c10 Z false _ (Kd.C_below HX10.out HQ.out) HS10.out hv3.out).mono ?_); rintro e w38 ⟨rfl, hb⟩; have n1_ := Aside0.mk (below_step HQ.out hb); clear HQ; have HQ := n1_; clear n1_ hb; ) | (go_at_call 7; (with_reducible refine (value_OfInt.calls 1 2 1 0 (⟨#[]⟩ : ByteArray) [] _ rfl).mono ?_); rintro e w40 ⟨v1_, rfl, ho, hb⟩; obtain ⟨Ai1, ci1, ei1⟩ := Kd.R_slice ho; subst ei1; have HI1 := Aside0.mk (Kd.R_reads' ho).2.2; have HJ1 := Aside0.mk (Kd.R_reads' ho).2.1; have n1_ := Aside0.mk (below_step HQ.out hb); clear HQ; have HQ := n1_; clear n1_ hb ho) | (go_at_call 7; (with_reducible refine (value_OfInt.calls 2 2 2 0 (⟨#[]⟩ : ByteArray) [] _ rfl).mono ?_); rintro e w41 ⟨v2_, rfl, ho, hb⟩; obtain ⟨Ai2, ci2, ei2⟩ := Kd.R_slice ho; subst ei2; have HI2 := Aside0.mk (Kd.R_reads' ho).2.2; have HJ2 := Aside0.mk (Kd.R_reads' ho).2.1; have n2_ := Aside0.mk (Kd.C_below HI1.out hb); clear HI1; have HI1 := n2_; clear n2_; have n1_ := Aside0.mk (below_step HQ.out hb); clear HQ; have HQ := n1_; clear n1_ hb ho) | (go_at_call 6; (refine (value_Compare.calls k 2 1 0 (⟨#[]⟩ : ByteArray) Ai1 ci1 [] 2 2 0 (⟨#[]⟩ : ByteArray) Ai2 ci2 [] (-1) _ HI1.out HJ1.out HI2.out HJ2.out hq.out).mono ?_); rintro e w39 ⟨rfl, hb⟩; have n1_ := Aside0.mk (below_step HQ.out hb); clear HQ; have HQ := n1_; clear n1_ hb))
                  go_ret
                  exact ⟨rfl, by (with_reducible repeat (first | apply below_alloc | apply pw_below_drewN | apply below_drew1)); exact below_step HB.out HQ.out⟩
                | true =>
                  obtain ⟨r, hk1, hk2, hk3, hk4⟩ := hk.out rfl rfl rfl
                  replace hk1 := Aside0.mk hk1
                  replace hk2 := Aside0.mk hk2
                  replace hk3 := Aside0.mk hk3
                  replace hk4 := Aside0.mk hk4
                  by_cases dr : r = 0
                  · subst dr
                    rw [if_pos rfl] at hk4
                    go_wp2_with (first | (go_at_call 5; (with_reducible refine (cobwebref03_Valid.calls k 6 0 0 (⟨#[]⟩ : ByteArray) A1 c1 X true _ (Kd.C_below HX1.out HQ.out) HS1.out hv1.out).mono ?_); rintro e w42 ⟨rfl, hb⟩; have n1_ := Aside0.mk (below_step HQ.out hb); clear HQ; have HQ := n1_; clear n1_ hb; have hcl29 : w42.cell? ⟨g9, 0, none⟩ = some (.int .i64 6) := (blk_cell (blk_below BK12.out HQ.out) 0).trans rfl; have hcl30 : w42.cell? ⟨g9, 1, none⟩ = some (.int .i64 0) := (blk_cell (blk_below BK12.out HQ.out) 1).trans rfl; have hcl31 : w42.cell? ⟨g9, 2, none⟩ = some (.float .f64 0) := (blk_cell (blk_below BK12.out HQ.out) 2).trans rfl; have hcl32 : w42.cell? ⟨g9, 3, none⟩ = some (.string (⟨#[]⟩ : ByteArray)) := (blk_cell (blk_below BK12.out HQ.out) 3).trans rfl; have hcl33 : w42.cell? ⟨g9, 4, none⟩ = some (.slice A5 Y.length c5) := (blk_cell (blk_below BK12.out HQ.out) 4).trans rfl) | (go_at_call 5; (with_reducible refine (cobwebref03_Valid.calls k 6 0 0 (⟨#[]⟩ : ByteArray) A5 c5 Y true _ (Kd.C_below HX5.out HQ.out) HS5.out hv2.out).mono ?_); rintro e w43 ⟨rfl, hb⟩; have n1_ := Aside0.mk (below_step HQ.out hb); clear HQ; have HQ := n1_; clear n1_ hb; have hcl34 : w43.cell? ⟨g10, 0, none⟩ = some (.int .i64 6) := (blk_cell (blk_below BK13.out HQ.out) 0).trans rfl; have hcl35 : w43.cell? ⟨g10, 1, none⟩ = some (.int .i64 0) := (blk_cell (blk_below BK13.out HQ.out) 1).trans rfl; have hcl36 : w43.cell? ⟨g10, 2, none⟩ = some (.float .f64 0) := (blk_cell (blk_below BK13.out HQ.out) 2).trans rfl; have hcl37 : w43.cell? ⟨g10, 3, none⟩ = some (.string (⟨#[]⟩ : ByteArray)) := (blk_cell (blk_below BK13.out HQ.out) 3).trans rfl; have hcl38 : w43.cell? ⟨g10, 4, none⟩ = some (.slice A10 Z.length c10) := (blk_cell (blk_below BK13.out HQ.out) 4).trans rfl) | (go_at_call 5; (with_reducible refine (cobwebref03_Valid.calls k 6 0 0 (⟨#[]⟩ : ByteArray) A10 c10 Z true _ (Kd.C_below HX10.out HQ.out) HS10.out hv3.out).mono ?_); rintro e w44 ⟨rfl, hb⟩; have n1_ := Aside0.mk (below_step HQ.out hb); clear HQ; have HQ := n1_; clear n1_ hb; have hcl39 : w44.cell? ⟨gb, 0, none⟩ = some (.int .i64 p0) := (blk_cell (blk_below BB.out HQ.out) 0).trans rfl; have hcl40 : w44.cell? ⟨gb, 1, none⟩ = some (.int .i64 p1) := (blk_cell (blk_below BB.out HQ.out) 1).trans rfl; have hcl41 : w44.cell? ⟨gb, 2, none⟩ = some (.float .f64 p2) := (blk_cell (blk_below BB.out HQ.out) 2).trans rfl; have hcl42 : w44.cell? ⟨gb, 3, none⟩ = some (.string p3) := (blk_cell (blk_below BB.out HQ.out) 3).trans rfl; have hcl43 : w44.cell? ⟨gc, 0, none⟩ = some (.int .i64 q0) := (blk_cell (blk_below BC.out HQ.out) 0).trans rfl; have hcl44 : w44.cell? ⟨gc, 1, none⟩ = some (.int .i64 q1) := (blk_cell (blk_below BC.out HQ.out) 1).trans rfl; have hcl45 : w44.cell? ⟨gc, 2, none⟩ = some (.float .f64 q2) := (blk_cell (blk_below BC.out HQ.out) 2).trans rfl; have hcl46 : w44.cell? ⟨gc, 3, none⟩ = some (.string q3) := (blk_cell (blk_below BC.out HQ.out) 3).trans rfl) | (go_at_call 6; (with_reducible refine (value_Compare.calls k 6 0 0 (⟨#[]⟩ : ByteArray) A1 c1 X 6 0 0 (⟨#[]⟩ : ByteArray) A5 c5 Y (-1) _ (Kd.C_below HX1.out HQ.out) HS1.out (Kd.C_below HX5.out HQ.out) HS5.out hk2.out).mono ?_); rintro e w45 ⟨rfl, hb⟩; have n1_ := Aside0.mk (below_step HQ.out hb); clear HQ; have HQ := n1_; clear n1_ hb; have hcl47 : w45.cell? ⟨g8, 0, none⟩ = some (.int .i64 6) := (blk_cell (blk_below BK11.out HQ.out) 0).trans rfl; have hcl48 : w45.cell? ⟨g8, 1, none⟩ = some (.int .i64 0) := (blk_cell (blk_below BK11.out HQ.out) 1).trans rfl; have hcl49 : w45.cell? ⟨g8, 2, none⟩ = some (.float .f64 0) := (blk_cell (blk_below BK11.out HQ.out) 2).trans rfl; have hcl50 : w45.cell? ⟨g8, 3, none⟩ = some (.string (⟨#[]⟩ : ByteArray)) := (blk_cell (blk_below BK11.out HQ.out) 3).trans rfl; have hcl51 : w45.cell? ⟨g8, 4, none⟩ = some (.slice A1 X.length c1) := (blk_cell (blk_below BK11.out HQ.out) 4).trans rfl) | (go_at_call 6; (with_reducible refine (value_Compare.calls k 6 0 0 (⟨#[]⟩ : ByteArray) A1 c1 X 6 0 0 (⟨#[]⟩ : ByteArray) A1 c1 X 0 _ (Kd.C_below HX1.out HQ.out) HS1.out (Kd.C_below HX1.out HQ.out) HS1.out hk3.out).mono ?_); rintro e w46 ⟨rfl, hb⟩; have n1_ := Aside0.mk (below_step HQ.out hb); clear HQ; have HQ := n1_; clear n1_ hb; have hcl52 : w46.cell? ⟨g9, 0, none⟩ = some (.int .i64 6) := (blk_cell (blk_below BK12.out HQ.out) 0).trans rfl; have hcl53 : w46.cell? ⟨g9, 1, none⟩ = some (.int .i64 0) := (blk_cell (blk_below BK12.out HQ.out) 1).trans rfl; have hcl54 : w46.cell? ⟨g9, 2, none⟩ = some (.float .f64 0) := (blk_cell (blk_below BK12.out HQ.out) 2).trans rfl; have hcl55 : w46.cell? ⟨g9, 3, none⟩ = some (.string (⟨#[]⟩ : ByteArray)) := (blk_cell (blk_below BK12.out HQ.out) 3).trans rfl; have hcl56 : w46.cell? ⟨g9, 4, none⟩ = some (.slice A5 Y.length c5) := (blk_cell (blk_below BK12.out HQ.out) 4).trans rfl; have hcl57 : w46.cell? ⟨g10, 0, none⟩ = some (.int .i64 6) := (blk_cell (blk_below BK13.out HQ.out) 0).trans rfl; have hcl58 : w46.cell? ⟨g10, 1, none⟩ = some (.int .i64 0) := (blk_cell (blk_below BK13.out HQ.out) 1).trans rfl; have hcl59 : w46.cell? ⟨g10, 2, none⟩ = some (.float .f64 0) := (blk_cell (blk_below BK13.out HQ.out) 2).trans rfl; have hcl60 : w46.cell? ⟨g10, 3, none⟩ = some (.string (⟨#[]⟩ : ByteArray)) := (blk_cell (blk_below BK13.out HQ.out) 3).trans rfl; have hcl61 : w46.cell? ⟨g10, 4, none⟩ = some (.slice A10 Z.length c10) := (blk_cell (blk_below BK13.out HQ.out) 4).trans rfl) | (go_at_call 6; (with_reducible refine (value_Compare.calls k 6 0 0 (⟨#[]⟩ : ByteArray) A5 c5 Y 6 0 0 (⟨#[]⟩ : ByteArray) A10 c10 Z (-1) _ (Kd.C_below HX5.out HQ.out) HS5.out (Kd.C_below HX10.out HQ.out) HS10.out hk4.out).mono ?_); rintro e w47 ⟨rfl, hb⟩; have n1_ := Aside0.mk (below_step HQ.out hb); clear HQ; have HQ := n1_; clear n1_ hb; ) | (go_at_call 6; (refine (value_Compare.calls k p0 p1 p2 p3 none 0 [] q0 q1 q2 q3 none 0 [] 0 _ (Kd.C_nil _ _) (Nat.le_refl _) (Kd.C_nil _ _) (Nat.le_refl _) hk1.out).mono ?_); rintro e w48 ⟨rfl, hb⟩; have n1_ := Aside0.mk (below_step HQ.out hb); clear HQ; have HQ := n1_; clear n1_ hb; have hcl62 : w48.cell? ⟨g8, 0, none⟩ = some (.int .i64 6) := (blk_cell (blk_below BK11.out HQ.out) 0).trans rfl; have hcl63 : w48.cell? ⟨g8, 1, none⟩ = some (.int .i64 0) := (blk_cell (blk_below BK11.out HQ.out) 1).trans rfl; have hcl64 : w48.cell? ⟨g8, 2, none⟩ = some (.float .f64 0) := (blk_cell (blk_below BK11.out HQ.out) 2).trans rfl; have hcl65 : w48.cell? ⟨g8, 3, none⟩ = some (.string (⟨#[]⟩ : ByteArray)) := (blk_cell (blk_below BK11.out HQ.out) 3).trans rfl; have hcl66 : w48.cell? ⟨g8, 4, none⟩ = some (.slice A1 X.length c1) := (blk_cell (blk_below BK11.out HQ.out) 4).trans rfl; have hcl67 : w48.cell? ⟨g9, 0, none⟩ = some (.int .i64 6) := (blk_cell (blk_below BK12.out HQ.out) 0).trans rfl; have hcl68 : w48.cell? ⟨g9, 1, none⟩ = some (.int .i64 0) := (blk_cell (blk_below BK12.out HQ.out) 1).trans rfl; have hcl69 : w48.cell? ⟨g9, 2, none⟩ = some (.float .f64 0) := (blk_cell (blk_below BK12.out HQ.out) 2).trans rfl; have hcl70 : w48.cell? ⟨g9, 3, none⟩ = some (.string (⟨#[]⟩ : ByteArray)) := (blk_cell (blk_below BK12.out HQ.out) 3).trans rfl; have hcl71 : w48.cell? ⟨g9, 4, none⟩ = some (.slice A5 Y.length c5) := (blk_cell (blk_below BK12.out HQ.out) 4).trans rfl))
                    go_ret
                    exact ⟨rfl, by (with_reducible repeat (first | apply below_alloc | apply pw_below_drewN | apply below_drew1)); exact below_step HB.out HQ.out⟩
                  · rw [if_neg dr] at hk4
                    have drb : (r == 0) = false := beq_eq_false_iff_ne.mpr dr
                    go_wp2_with (first | (go_at_call 5; (with_reducible refine (cobwebref03_Valid.calls k 6 0 0 (⟨#[]⟩ : ByteArray) A1 c1 X true _ (Kd.C_below HX1.out HQ.out) HS1.out hv1.out).mono ?_); rintro e w49 ⟨rfl, hb⟩; have n1_ := Aside0.mk (below_step HQ.out hb); clear HQ; have HQ := n1_; clear n1_ hb; have hcl72 : w49.cell? ⟨g9, 0, none⟩ = some (.int .i64 6) := (blk_cell (blk_below BK12.out HQ.out) 0).trans rfl; have hcl73 : w49.cell? ⟨g9, 1, none⟩ = some (.int .i64 0) := (blk_cell (blk_below BK12.out HQ.out) 1).trans rfl; have hcl74 : w49.cell? ⟨g9, 2, none⟩ = some (.float .f64 0) := (blk_cell (blk_below BK12.out HQ.out) 2).trans rfl; have hcl75 : w49.cell? ⟨g9, 3, none⟩ = some (.string (⟨#[]⟩ : ByteArray)) := (blk_cell (blk_below BK12.out HQ.out) 3).trans rfl; have hcl76 : w49.cell? ⟨g9, 4, none⟩ = some (.slice A5 Y.length c5) := (blk_cell (blk_below BK12.out HQ.out) 4).trans rfl) | (go_at_call 5; (with_reducible refine (cobwebref03_Valid.calls k 6 0 0 (⟨#[]⟩ : ByteArray) A5 c5 Y true _ (Kd.C_below HX5.out HQ.out) HS5.out hv2.out).mono ?_); rintro e w50 ⟨rfl, hb⟩; have n1_ := Aside0.mk (below_step HQ.out hb); clear HQ; have HQ := n1_; clear n1_ hb; have hcl77 : w50.cell? ⟨g10, 0, none⟩ = some (.int .i64 6) := (blk_cell (blk_below BK13.out HQ.out) 0).trans rfl; have hcl78 : w50.cell? ⟨g10, 1, none⟩ = some (.int .i64 0) := (blk_cell (blk_below BK13.out HQ.out) 1).trans rfl; have hcl79 : w50.cell? ⟨g10, 2, none⟩ = some (.float .f64 0) := (blk_cell (blk_below BK13.out HQ.out) 2).trans rfl; have hcl80 : w50.cell? ⟨g10, 3, none⟩ = some (.string (⟨#[]⟩ : ByteArray)) := (blk_cell (blk_below BK13.out HQ.out) 3).trans rfl; have hcl81 : w50.cell? ⟨g10, 4, none⟩ = some (.slice A10 Z.length c10) := (blk_cell (blk_below BK13.out HQ.out) 4).trans rfl) | (go_at_call 5; (with_reducible refine (cobwebref03_Valid.calls k 6 0 0 (⟨#[]⟩ : ByteArray) A10 c10 Z true _ (Kd.C_below HX10.out HQ.out) HS10.out hv3.out).mono ?_); rintro e w51 ⟨rfl, hb⟩; have n1_ := Aside0.mk (below_step HQ.out hb); clear HQ; have HQ := n1_; clear n1_ hb; have hcl82 : w51.cell? ⟨gb, 0, none⟩ = some (.int .i64 p0) := (blk_cell (blk_below BB.out HQ.out) 0).trans rfl; have hcl83 : w51.cell? ⟨gb, 1, none⟩ = some (.int .i64 p1) := (blk_cell (blk_below BB.out HQ.out) 1).trans rfl; have hcl84 : w51.cell? ⟨gb, 2, none⟩ = some (.float .f64 p2) := (blk_cell (blk_below BB.out HQ.out) 2).trans rfl; have hcl85 : w51.cell? ⟨gb, 3, none⟩ = some (.string p3) := (blk_cell (blk_below BB.out HQ.out) 3).trans rfl; have hcl86 : w51.cell? ⟨gc, 0, none⟩ = some (.int .i64 q0) := (blk_cell (blk_below BC.out HQ.out) 0).trans rfl; have hcl87 : w51.cell? ⟨gc, 1, none⟩ = some (.int .i64 q1) := (blk_cell (blk_below BC.out HQ.out) 1).trans rfl; have hcl88 : w51.cell? ⟨gc, 2, none⟩ = some (.float .f64 q2) := (blk_cell (blk_below BC.out HQ.out) 2).trans rfl; have hcl89 : w51.cell? ⟨gc, 3, none⟩ = some (.string q3) := (blk_cell (blk_below BC.out HQ.out) 3).trans rfl) | (go_at_call 6; (with_reducible refine (value_Compare.calls k 6 0 0 (⟨#[]⟩ : ByteArray) A1 c1 X 6 0 0 (⟨#[]⟩ : ByteArray) A5 c5 Y (-1) _ (Kd.C_below HX1.out HQ.out) HS1.out (Kd.C_below HX5.out HQ.out) HS5.out hk2.out).mono ?_); rintro e w52 ⟨rfl, hb⟩; have n1_ := Aside0.mk (below_step HQ.out hb); clear HQ; have HQ := n1_; clear n1_ hb; have hcl90 : w52.cell? ⟨g8, 0, none⟩ = some (.int .i64 6) := (blk_cell (blk_below BK11.out HQ.out) 0).trans rfl; have hcl91 : w52.cell? ⟨g8, 1, none⟩ = some (.int .i64 0) := (blk_cell (blk_below BK11.out HQ.out) 1).trans rfl; have hcl92 : w52.cell? ⟨g8, 2, none⟩ = some (.float .f64 0) := (blk_cell (blk_below BK11.out HQ.out) 2).trans rfl; have hcl93 : w52.cell? ⟨g8, 3, none⟩ = some (.string (⟨#[]⟩ : ByteArray)) := (blk_cell (blk_below BK11.out HQ.out) 3).trans rfl; have hcl94 : w52.cell? ⟨g8, 4, none⟩ = some (.slice A1 X.length c1) := (blk_cell (blk_below BK11.out HQ.out) 4).trans rfl) | (go_at_call 6; (with_reducible refine (value_Compare.calls k 6 0 0 (⟨#[]⟩ : ByteArray) A1 c1 X 6 0 0 (⟨#[]⟩ : ByteArray) A1 c1 X 0 _ (Kd.C_below HX1.out HQ.out) HS1.out (Kd.C_below HX1.out HQ.out) HS1.out hk3.out).mono ?_); rintro e w53 ⟨rfl, hb⟩; have n1_ := Aside0.mk (below_step HQ.out hb); clear HQ; have HQ := n1_; clear n1_ hb; have hcl95 : w53.cell? ⟨g9, 0, none⟩ = some (.int .i64 6) := (blk_cell (blk_below BK12.out HQ.out) 0).trans rfl; have hcl96 : w53.cell? ⟨g9, 1, none⟩ = some (.int .i64 0) := (blk_cell (blk_below BK12.out HQ.out) 1).trans rfl; have hcl97 : w53.cell? ⟨g9, 2, none⟩ = some (.float .f64 0) := (blk_cell (blk_below BK12.out HQ.out) 2).trans rfl; have hcl98 : w53.cell? ⟨g9, 3, none⟩ = some (.string (⟨#[]⟩ : ByteArray)) := (blk_cell (blk_below BK12.out HQ.out) 3).trans rfl; have hcl99 : w53.cell? ⟨g9, 4, none⟩ = some (.slice A5 Y.length c5) := (blk_cell (blk_below BK12.out HQ.out) 4).trans rfl; have hcl100 : w53.cell? ⟨g10, 0, none⟩ = some (.int .i64 6) := (blk_cell (blk_below BK13.out HQ.out) 0).trans rfl; have hcl101 : w53.cell? ⟨g10, 1, none⟩ = some (.int .i64 0) := (blk_cell (blk_below BK13.out HQ.out) 1).trans rfl; have hcl102 : w53.cell? ⟨g10, 2, none⟩ = some (.float .f64 0) := (blk_cell (blk_below BK13.out HQ.out) 2).trans rfl; have hcl103 : w53.cell? ⟨g10, 3, none⟩ = some (.string (⟨#[]⟩ : ByteArray)) := (blk_cell (blk_below BK13.out HQ.out) 3).trans rfl; have hcl104 : w53.cell? ⟨g10, 4, none⟩ = some (.slice A10 Z.length c10) := (blk_cell (blk_below BK13.out HQ.out) 4).trans rfl) | (go_at_call 6; (with_reducible refine (value_Compare.calls k 6 0 0 (⟨#[]⟩ : ByteArray) A5 c5 Y 6 0 0 (⟨#[]⟩ : ByteArray) A10 c10 Z r _ (Kd.C_below HX5.out HQ.out) HS5.out (Kd.C_below HX10.out HQ.out) HS10.out hk4.out).mono ?_); rintro e w54 ⟨rfl, hb⟩; have n1_ := Aside0.mk (below_step HQ.out hb); clear HQ; have HQ := n1_; clear n1_ hb; ) | (go_at_call 6; (refine (value_Compare.calls k p0 p1 p2 p3 none 0 [] q0 q1 q2 q3 none 0 [] r _ (Kd.C_nil _ _) (Nat.le_refl _) (Kd.C_nil _ _) (Nat.le_refl _) hk1.out).mono ?_); rintro e w55 ⟨rfl, hb⟩; have n1_ := Aside0.mk (below_step HQ.out hb); clear HQ; have HQ := n1_; clear n1_ hb; have hcl105 : w55.cell? ⟨g8, 0, none⟩ = some (.int .i64 6) := (blk_cell (blk_below BK11.out HQ.out) 0).trans rfl; have hcl106 : w55.cell? ⟨g8, 1, none⟩ = some (.int .i64 0) := (blk_cell (blk_below BK11.out HQ.out) 1).trans rfl; have hcl107 : w55.cell? ⟨g8, 2, none⟩ = some (.float .f64 0) := (blk_cell (blk_below BK11.out HQ.out) 2).trans rfl; have hcl108 : w55.cell? ⟨g8, 3, none⟩ = some (.string (⟨#[]⟩ : ByteArray)) := (blk_cell (blk_below BK11.out HQ.out) 3).trans rfl; have hcl109 : w55.cell? ⟨g8, 4, none⟩ = some (.slice A1 X.length c1) := (blk_cell (blk_below BK11.out HQ.out) 4).trans rfl; have hcl110 : w55.cell? ⟨g9, 0, none⟩ = some (.int .i64 6) := (blk_cell (blk_below BK12.out HQ.out) 0).trans rfl; have hcl111 : w55.cell? ⟨g9, 1, none⟩ = some (.int .i64 0) := (blk_cell (blk_below BK12.out HQ.out) 1).trans rfl; have hcl112 : w55.cell? ⟨g9, 2, none⟩ = some (.float .f64 0) := (blk_cell (blk_below BK12.out HQ.out) 2).trans rfl; have hcl113 : w55.cell? ⟨g9, 3, none⟩ = some (.string (⟨#[]⟩ : ByteArray)) := (blk_cell (blk_below BK12.out HQ.out) 3).trans rfl; have hcl114 : w55.cell? ⟨g9, 4, none⟩ = some (.slice A5 Y.length c5) := (blk_cell (blk_below BK12.out HQ.out) 4).trans rfl))
                    go_ret
                    exact ⟨rfl, by (with_reducible repeat (first | apply below_alloc | apply pw_below_drewN | apply below_drew1)); exact below_step HB.out HQ.out⟩
  · have c15b : decide (14 < (l0.length : Int)) = false := decide_eq_false c15
    have c15c : decide (14 < l0.length) = false := decide_eq_false (by omega)
    have hLe : l0.take 14 = l0 := List.take_of_length_le (by omega)
    go_enter Try.func3, Try.ntmps3
    go_wp2_with (first | ((with_reducible refine gate_dst (N := 3) rfl ?_); refine box_event ?hg (N := 3) ?hd (cs := #[.slice A0 l0.length c0]) (t := 22) ?hr ?_; (case hd => rfl); (case hg => rfl); (case hr => first | (go_simp; done) | (go_simp; rfl)); intro ga hg w1 hbox hb; have n1_ := Aside0.mk (below_step HB.out hb); have n2_ := Aside0.mk hbox; have n3_ := Aside0.mk ((by rw [hg]; exact below_size HB.out) : w.heap.size ≤ ga); clear HB; have HB := n1_; have BA := n2_; have GA := n3_; clear n1_ n2_ n3_ hb hbox hg) | ((with_reducible refine gate_dst (N := 4) rfl ?_); refine box_event ?hg (N := 4) ?hd (cs := #[.int .i64 p0, .int .i64 p1, .float .f64 p2, .string p3]) (t := 25) ?hr ?_; (case hd => rfl); (case hg => rfl); (case hr => first | (go_simp; done) | (go_simp; rfl)); intro gb hg w2 hbox hb; have n1_ := Aside0.mk (below_step HB.out hb); have n2_ := Aside0.mk hbox; have n3_ := Aside0.mk (blk_below BA.out hb); have n4_ := Aside0.mk ((by rw [hg]; exact Nat.ne_of_gt (blk_lt BA.out)) : gb ≠ ga); clear HB BA; have HB := n1_; have BB := n2_; have BA := n3_; have NBA := n4_; clear n1_ n2_ n3_ n4_ hb hbox hg) | ((with_reducible refine gate_dst (N := 5) rfl ?_); refine box_event ?hg (N := 5) ?hd (cs := #[.int .i64 q0, .int .i64 q1, .float .f64 q2, .string q3]) (t := 25) ?hr ?_; (case hd => rfl); (case hg => rfl); (case hr => first | (go_simp; done) | (go_simp; rfl)); intro gc hg w3 hbox hb; have n1_ := Aside0.mk (below_step HB.out hb); have n2_ := Aside0.mk hbox; have n3_ := Aside0.mk (blk_below BA.out hb); have n4_ := Aside0.mk (blk_below BB.out hb); have n5_ := Aside0.mk ((by rw [hg]; exact Nat.ne_of_gt (blk_lt BA.out)) : gc ≠ ga); clear HB BA BB; have HB := n1_; have BC := n2_; have BA := n3_; have BB := n4_; have NCA := n5_; clear n1_ n2_ n3_ n4_ n5_ hb hbox hg; have hca : w3.cell? ⟨ga, 0, none⟩ = some (.slice A0 l0.length c0) := (blk_cell BA.out 0).trans rfl; have hfa := blk_frozen BA.out 0))
    obtain ⟨L, hL⟩ : ∃ L, L = l0 := ⟨_, rfl⟩
    rw [hLe, ← hL] at hv1 hv2 hv3 hk
    have HRw := HR0
    rw [← hL] at HRw BA
    have HRL := HRw
    have HCL : Aside0 (L.length ≤ c0) := ⟨by rw [hL]; exact HC0.out⟩
    have HL14 : Aside0 (L.length ≤ 14) := ⟨by rw [hL]; omega⟩
    obtain ⟨w4, hw4⟩ : ∃ w4, w4 = w3 := ⟨_, rfl⟩
    subst hw4
    clear hca hfa hL
    refine start_ (n := 17) (S := fun w' => True) (ds := []) #[false, false, false, false, false, false, false, false, false, false, false, false, false, false, false, false, false] (by kernel_rfl) rfl rfl trivial (fun hHeld => ?_)
    refine with_tabW law.tab4 law.bits4 (fun HT_ HW_ => ?_)
    have n1_ := Aside0.mk (below_drew1 HB.out)
    have n2_ := Aside0.mk (blk_drew BA.out)
    have n3_ := Aside0.mk (blk_drew BB.out)
    have n4_ := Aside0.mk (blk_drew BC.out)
    clear HB BA BB BC
    generalize w4.drew = w9 at n1_ n2_ n3_ n4_ hHeld ⊢
    have HB := n1_
    have BA := n2_
    have BB := n3_
    have BC := n4_
    clear n1_ n2_ n3_ n4_
    have HR9 := Aside0.mk (Kd.C_below HRL.out HB.out)
    refine pure_ (i := 0) (N := some 19) (v := ?_) (a' := ?_) #[true, false, false, false, false, false, false, false, false, false, false, false, false, false, false, false, false] rfl rfl (any_of HT_.out (by kernel_rfl)) (fun _ _ _ h => h) (Or.inl ⟨by rfl, ?_⟩) ?_ ?_
    rotate_left
    · intro w'
      go_simp
      with_reducible rfl
    rotate_left
    · simp only [Act.put, List.setIfInBounds_toArray, List.set_cons_zero, List.set_cons_succ, i64_w, i32_w]
      rfl
    refine pure_ (i := 2) (N := some 21) (v := ?_) (a' := ?_) #[true, false, true, false, false, false, false, false, false, false, false, false, false, false, false, false, false] rfl rfl (any_of HT_.out (by kernel_rfl)) (fun _ _ _ h => h) (Or.inl ⟨by rfl, ?_⟩) ?_ ?_
    rotate_left
    · intro w'
      go_simp
      with_reducible rfl
    rotate_left
    · simp only [Act.put, List.setIfInBounds_toArray, List.set_cons_zero, List.set_cons_succ, i64_w, i32_w]
      rfl
    refine pure_ (i := 6) (N := some 25) (v := ?_) (a' := ?_) #[true, false, true, false, false, false, true, false, false, false, false, false, false, false, false, false, false] rfl rfl (any_of HT_.out (by kernel_rfl)) (fun _ _ _ h => h) (Or.inl ⟨by rfl, ?_⟩) ?_ ?_
    rotate_left
    · intro w'
      go_simp
      with_reducible rfl
    rotate_left
    · simp only [Act.put, List.setIfInBounds_toArray, List.set_cons_zero, List.set_cons_succ, i64_w, i32_w]
      rfl
    refine inv_at [1, 3, 4, 5, 7, 8, 9, 10, 11, 12, 13, 14, 15, 16] (fun a0_ b a w' => ∃ (v20 v23 v24 v28 v29 : Value) (g8 g9 g10 : Nat), a = putSel a0_ b [(1, 20, .agg #[.int .i64 6, .int .i64 0, .float .f64 0, .string (⟨#[]⟩ : ByteArray), v20]), (3, 22, .agg #[.int .i64 p0, .int .i64 p1, .float .f64 p2, .string p3]), (4, 23, v23), (5, 24, .agg #[.int .i64 6, .int .i64 0, .float .f64 0, .string (⟨#[]⟩ : ByteArray), v24]), (7, 26, .agg #[.int .i64 q0, .int .i64 q1, .float .f64 q2, .string q3]), (8, 27, .agg #[.int .i64 p0, .int .i64 p1, .float .f64 p2, .string p3]), (9, 28, v28), (10, 29, .agg #[.int .i64 6, .int .i64 0, .float .f64 0, .string (⟨#[]⟩ : ByteArray), v29]), (11, 8, .pointer (some ⟨g8, 0, none⟩)), (12, 9, .pointer (some ⟨g9, 0, none⟩)), (13, 10, .pointer (some ⟨g10, 0, none⟩))] ∧ LJ b w9 w' v20 v23 v24 v28 v29 (L ++ []) [(⟨p0, p1, p2, p3⟩ : S25)] (L ++ [(⟨p0, p1, p2, p3⟩ : S25)]) [(⟨q0, q1, q2, q3⟩ : S25), (⟨p0, p1, p2, p3⟩ : S25)] (L ++ [(⟨q0, q1, q2, q3⟩ : S25), (⟨p0, p1, p2, p3⟩ : S25)]) g8 g9 g10) HT_.out HW_.out (by kernel_rfl) (by kernel_rfl) ?_ ?_ ?_
    · exact ⟨.bool false, .bool false, .bool false, .bool false, .bool false, 0, 0, 0, by simp only [putSel, Bool.false_eq_true, if_false], ⟨Below.refl _ _, fun h_ => absurd h_ (by decide), fun h_ => absurd h_ (by decide), fun h_ => absurd h_ (by decide), fun h_ => absurd h_ (by decide), fun h_ => absurd h_ (by decide), fun h_ => absurd h_ (by decide), fun h_ => absurd h_ (by decide), fun h_ => absurd h_ (by decide), fun h_ => absurd h_ (by decide), fun h_ => absurd h_ (by decide), fun h_ => absurd h_ (by decide)⟩⟩
    · refine steps_cons ?_ ?_
      · rintro b a w' ⟨v20, v23, v24, v28, v29, g8, g9, g10, ha, J⟩ hb_ hon hoff
        refine ⟨_, rfl, fun K hK => ?_⟩
        have e19 : a.tmps[19]? = some (.func (.func 4) #[] #[.pointer (some ⟨ga, 0, none⟩)]) := by rw [ha]; exact (putSel_off rfl).trans rfl
        replace ha := Aside0.mk ha
        refine goesC_ (f := 4) Try.func4 (by kernel_rfl) rfl #[.slice none 0 0] (by rfl) rfl rfl (eval_of e19) (by simp only [List.map_toArray, List.map_cons, List.map_nil, Act.eval]) ?_
        show Calls Try.prog 4 #[.slice none 0 0, .pointer (some ⟨ga, 0, none⟩)] w' _
        refine (lists.calls A0 c0 L none 0 [] ga 6 0 0 (⟨#[]⟩ : ByteArray) (L ++ []) w' (Kd.C_below HR9.out J.B) HCL.out (Kd.C_nil _ _) (Nat.le_refl _) (blk_below BA.out J.B) (lists.f_eq L _ (by have := HL14.out; simp; omega))).mono ?_
        rintro e w10 ⟨v, rfl, ho, hb⟩
        refine ⟨_, rfl, ?_⟩
        exact hK.out _ _ ⟨v, v23, v24, v28, v29, g8, g9, g10, (by rw [ha.out]; exact putSel_upk 0 hb_ rfl rfl rfl), (J.grow hb).to1 (hoff 14 (by kernel_rfl)) (Kd.R_lower ho (below_size J.B))⟩
      refine steps_cons ?_ ?_
      · rintro b a w' ⟨v20, v23, v24, v28, v29, g8, g9, g10, ha, J⟩ hb_ hon hoff
        refine ⟨_, rfl, fun K hK => ?_⟩
        have e4 : a.tmps[4]? = some (.pointer (some ⟨gb, 0, none⟩)) := by rw [ha]; exact (putSel_off rfl).trans rfl
        replace ha := Aside0.mk ha
        have hc0_ : w'.cell? ⟨gb, 0, none⟩ = some (.int .i64 p0) := (blk_cell (blk_below BB.out J.B) 0).trans rfl
        have hc1_ : w'.cell? ⟨gb, 1, none⟩ = some (.int .i64 p1) := (blk_cell (blk_below BB.out J.B) 1).trans rfl
        have hc2_ : w'.cell? ⟨gb, 2, none⟩ = some (.float .f64 p2) := (blk_cell (blk_below BB.out J.B) 2).trans rfl
        have hc3_ : w'.cell? ⟨gb, 3, none⟩ = some (.string p3) := (blk_cell (blk_below BB.out J.B) 3).trans rfl
        refine value_ (w1 := w') (v := .agg #[.int .i64 p0, .int .i64 p1, .float .f64 p2, .string p3]) (by rfl) rfl ?_ ?_
        · go_simp
          (try simp only [i64_w])
          try rfl
        exact hK.out _ _ ⟨v20, v23, v24, v28, v29, g8, g9, g10, (by rw [ha.out]; exact putSel_upk 1 hb_ rfl rfl rfl), J.to3⟩
      refine steps_cons ?_ ?_
      · rintro b a w' ⟨v20, v23, v24, v28, v29, g8, g9, g10, ha, J⟩ hb_ hon hoff
        refine ⟨_, rfl, fun K hK => ?_⟩
        have e22 : a.tmps[22]? = some (.agg #[.int .i64 p0, .int .i64 p1, .float .f64 p2, .string p3]) := by rw [ha]; exact putSel_on (e := (3, 22, .agg #[.int .i64 p0, .int .i64 p1, .float .f64 p2, .string p3])) 1 rfl rfl (hon 3 (by kernel_rfl)) rfl
        replace ha := Aside0.mk ha
        refine Kd.R_lit_step k25 _ 25 ?hg (N := 23) ?hd (xs := ([(⟨p0, p1, p2, p3⟩ : S25)] : List S25)) (inner := [.int .i64 p0, .int .i64 p1, .float .f64 p2, .string p3]) (ok := fun _ => True) (okp := fun _ => True) ?hr ?hp (fun _ hk => hk) trivial (Below.refl _ _) (Nat.le_refl _) (by simp) ?_
        case hd => rfl
        case hg => rfl
        case hr => first | (go_simp; done) | (go_simp; rfl)
        case hp => exact (Reps.c4 (show Kd.M k25 _ _ _ (⟨p0, p1, p2, p3⟩ : S25) [.int .i64 p0, .int .i64 p1, .float .f64 p2, .string p3] from (k25_mkM _ _ _ (⟨p0, p1, p2, p3⟩ : S25))) (Reps.none _ _))
        intro v w10 ho hb hg_ hnew_
        exact hK.out _ _ ⟨v20, v, v24, v28, v29, g8, g9, g10, (by rw [ha.out]; exact putSel_upk 2 hb_ rfl rfl rfl), (J.grow hb).to4 (Kd.R_lower ho (below_size J.B))⟩
      refine steps_cons ?_ ?_
      · rintro b a w' ⟨v20, v23, v24, v28, v29, g8, g9, g10, ha, J⟩ hb_ hon hoff
        refine ⟨_, rfl, fun K hK => ?_⟩
        have e21 : a.tmps[21]? = some (.func (.func 4) #[] #[.pointer (some ⟨ga, 0, none⟩)]) := by rw [ha]; exact (putSel_off rfl).trans rfl
        have e23 : a.tmps[23]? = some (v23) := by rw [ha]; exact putSel_on (e := (4, 23, v23)) 2 rfl rfl (hon 4 (by kernel_rfl)) rfl
        have hR := J.h4 (hon 4 (by kernel_rfl))
        obtain ⟨Ao, co, eo⟩ := Kd.R_slice hR
        subst eo
        replace ha := Aside0.mk ha
        refine goesC_ (f := 4) Try.func4 (by kernel_rfl) rfl #[.slice Ao [(⟨p0, p1, p2, p3⟩ : S25)].length co] (by rfl) rfl rfl (eval_of e21) (by simp only [List.map_toArray, List.map_cons, List.map_nil, eval_of e23]) ?_
        show Calls Try.prog 4 #[.slice Ao [(⟨p0, p1, p2, p3⟩ : S25)].length co, .pointer (some ⟨ga, 0, none⟩)] w' _
        refine (lists.calls A0 c0 L Ao co [(⟨p0, p1, p2, p3⟩ : S25)] ga 6 0 0 (⟨#[]⟩ : ByteArray) (L ++ [(⟨p0, p1, p2, p3⟩ : S25)]) w' (Kd.C_below HR9.out J.B) HCL.out (Kd.R_reads' hR).2.2 (Kd.R_reads' hR).2.1 (blk_below BA.out J.B) (lists.f_eq L _ (by have := HL14.out; simp; omega))).mono ?_
        rintro e w10 ⟨v, rfl, ho, hb⟩
        refine ⟨_, rfl, ?_⟩
        exact hK.out _ _ ⟨v20, .slice Ao [(⟨p0, p1, p2, p3⟩ : S25)].length co, v, v28, v29, g8, g9, g10, (by rw [ha.out]; exact putSel_upk 3 hb_ rfl rfl rfl), (J.grow hb).to5 (hoff 15 (by kernel_rfl)) (Kd.R_lower ho (below_size J.B))⟩
      refine steps_cons ?_ ?_
      · rintro b a w' ⟨v20, v23, v24, v28, v29, g8, g9, g10, ha, J⟩ hb_ hon hoff
        refine ⟨_, rfl, fun K hK => ?_⟩
        have e5 : a.tmps[5]? = some (.pointer (some ⟨gc, 0, none⟩)) := by rw [ha]; exact (putSel_off rfl).trans rfl
        replace ha := Aside0.mk ha
        have hc0_ : w'.cell? ⟨gc, 0, none⟩ = some (.int .i64 q0) := (blk_cell (blk_below BC.out J.B) 0).trans rfl
        have hc1_ : w'.cell? ⟨gc, 1, none⟩ = some (.int .i64 q1) := (blk_cell (blk_below BC.out J.B) 1).trans rfl
        have hc2_ : w'.cell? ⟨gc, 2, none⟩ = some (.float .f64 q2) := (blk_cell (blk_below BC.out J.B) 2).trans rfl
        have hc3_ : w'.cell? ⟨gc, 3, none⟩ = some (.string q3) := (blk_cell (blk_below BC.out J.B) 3).trans rfl
        refine value_ (w1 := w') (v := .agg #[.int .i64 q0, .int .i64 q1, .float .f64 q2, .string q3]) (by rfl) rfl ?_ ?_
        · go_simp
          (try simp only [i64_w])
          try rfl
        exact hK.out _ _ ⟨v20, v23, v24, v28, v29, g8, g9, g10, (by rw [ha.out]; exact putSel_upk 4 hb_ rfl rfl rfl), J.to7⟩
      refine steps_cons ?_ ?_
      · rintro b a w' ⟨v20, v23, v24, v28, v29, g8, g9, g10, ha, J⟩ hb_ hon hoff
        refine ⟨_, rfl, fun K hK => ?_⟩
        have e4 : a.tmps[4]? = some (.pointer (some ⟨gb, 0, none⟩)) := by rw [ha]; exact (putSel_off rfl).trans rfl
        replace ha := Aside0.mk ha
        have hc0_ : w'.cell? ⟨gb, 0, none⟩ = some (.int .i64 p0) := (blk_cell (blk_below BB.out J.B) 0).trans rfl
        have hc1_ : w'.cell? ⟨gb, 1, none⟩ = some (.int .i64 p1) := (blk_cell (blk_below BB.out J.B) 1).trans rfl
        have hc2_ : w'.cell? ⟨gb, 2, none⟩ = some (.float .f64 p2) := (blk_cell (blk_below BB.out J.B) 2).trans rfl
        have hc3_ : w'.cell? ⟨gb, 3, none⟩ = some (.string p3) := (blk_cell (blk_below BB.out J.B) 3).trans rfl
        refine value_ (w1 := w') (v := .agg #[.int .i64 p0, .int .i64 p1, .float .f64 p2, .string p3]) (by rfl) rfl ?_ ?_
        · go_simp
          (try simp only [i64_w])
          try rfl
        exact hK.out _ _ ⟨v20, v23, v24, v28, v29, g8, g9, g10, (by rw [ha.out]; exact putSel_upk 5 hb_ rfl rfl rfl), J.to8⟩
      refine steps_cons ?_ ?_
      · rintro b a w' ⟨v20, v23, v24, v28, v29, g8, g9, g10, ha, J⟩ hb_ hon hoff
        refine ⟨_, rfl, fun K hK => ?_⟩
        have e26 : a.tmps[26]? = some (.agg #[.int .i64 q0, .int .i64 q1, .float .f64 q2, .string q3]) := by rw [ha]; exact putSel_on (e := (7, 26, .agg #[.int .i64 q0, .int .i64 q1, .float .f64 q2, .string q3])) 4 rfl rfl (hon 7 (by kernel_rfl)) rfl
        have e27 : a.tmps[27]? = some (.agg #[.int .i64 p0, .int .i64 p1, .float .f64 p2, .string p3]) := by rw [ha]; exact putSel_on (e := (8, 27, .agg #[.int .i64 p0, .int .i64 p1, .float .f64 p2, .string p3])) 5 rfl rfl (hon 8 (by kernel_rfl)) rfl
        replace ha := Aside0.mk ha
        refine Kd.R_lit_step k25 _ 25 ?hg (N := 28) ?hd (xs := ([(⟨q0, q1, q2, q3⟩ : S25), (⟨p0, p1, p2, p3⟩ : S25)] : List S25)) (inner := [.int .i64 q0, .int .i64 q1, .float .f64 q2, .string q3, .int .i64 p0, .int .i64 p1, .float .f64 p2, .string p3]) (ok := fun _ => True) (okp := fun _ => True) ?hr ?hp (fun _ hk => hk) trivial (Below.refl _ _) (Nat.le_refl _) (by simp) ?_
        case hd => rfl
        case hg => rfl
        case hr => first | (go_simp; done) | (go_simp; rfl)
        case hp => exact (Reps.c4 (show Kd.M k25 _ _ _ (⟨q0, q1, q2, q3⟩ : S25) [.int .i64 q0, .int .i64 q1, .float .f64 q2, .string q3] from (k25_mkM _ _ _ (⟨q0, q1, q2, q3⟩ : S25))) (Reps.c4 (show Kd.M k25 _ _ _ (⟨p0, p1, p2, p3⟩ : S25) [.int .i64 p0, .int .i64 p1, .float .f64 p2, .string p3] from (k25_mkM _ _ _ (⟨p0, p1, p2, p3⟩ : S25))) (Reps.none _ _)))
        intro v w10 ho hb hg_ hnew_
        exact hK.out _ _ ⟨v20, v23, v24, v, v29, g8, g9, g10, (by rw [ha.out]; exact putSel_upk 6 hb_ rfl rfl rfl), (J.grow hb).to9 (Kd.R_lower ho (below_size J.B))⟩
      refine steps_cons ?_ ?_
      · rintro b a w' ⟨v20, v23, v24, v28, v29, g8, g9, g10, ha, J⟩ hb_ hon hoff
        refine ⟨_, rfl, fun K hK => ?_⟩
        have e25 : a.tmps[25]? = some (.func (.func 4) #[] #[.pointer (some ⟨ga, 0, none⟩)]) := by rw [ha]; exact (putSel_off rfl).trans rfl
        have e28 : a.tmps[28]? = some (v28) := by rw [ha]; exact putSel_on (e := (9, 28, v28)) 6 rfl rfl (hon 9 (by kernel_rfl)) rfl
        have hR := J.h9 (hon 9 (by kernel_rfl))
        obtain ⟨Ao, co, eo⟩ := Kd.R_slice hR
        subst eo
        replace ha := Aside0.mk ha
        refine goesC_ (f := 4) Try.func4 (by kernel_rfl) rfl #[.slice Ao [(⟨q0, q1, q2, q3⟩ : S25), (⟨p0, p1, p2, p3⟩ : S25)].length co] (by rfl) rfl rfl (eval_of e25) (by simp only [List.map_toArray, List.map_cons, List.map_nil, eval_of e28]) ?_
        show Calls Try.prog 4 #[.slice Ao [(⟨q0, q1, q2, q3⟩ : S25), (⟨p0, p1, p2, p3⟩ : S25)].length co, .pointer (some ⟨ga, 0, none⟩)] w' _
        refine (lists.calls A0 c0 L Ao co [(⟨q0, q1, q2, q3⟩ : S25), (⟨p0, p1, p2, p3⟩ : S25)] ga 6 0 0 (⟨#[]⟩ : ByteArray) (L ++ [(⟨q0, q1, q2, q3⟩ : S25), (⟨p0, p1, p2, p3⟩ : S25)]) w' (Kd.C_below HR9.out J.B) HCL.out (Kd.R_reads' hR).2.2 (Kd.R_reads' hR).2.1 (blk_below BA.out J.B) (lists.f_eq L _ (by have := HL14.out; simp; omega))).mono ?_
        rintro e w10 ⟨v, rfl, ho, hb⟩
        refine ⟨_, rfl, ?_⟩
        exact hK.out _ _ ⟨v20, v23, v24, .slice Ao [(⟨q0, q1, q2, q3⟩ : S25), (⟨p0, p1, p2, p3⟩ : S25)].length co, v, g8, g9, g10, (by rw [ha.out]; exact putSel_upk 7 hb_ rfl rfl rfl), (J.grow hb).to10 (hoff 16 (by kernel_rfl)) (Kd.R_lower ho (below_size J.B))⟩
      refine steps_cons ?_ ?_
      · rintro b a w' ⟨v20, v23, v24, v28, v29, g8, g9, g10, ha, J⟩ hb_ hon hoff
        refine ⟨_, rfl, fun K hK => ?_⟩
        replace ha := Aside0.mk ha
        refine box_step ?hg (N := 8) ?hd (cs := zc) (t := 27) ?hr ?_
        case hd => rfl
        case hg => rfl
        case hr => first | (go_simp; done) | (go_simp; rfl)
        intro g hg w10 hbox hb
        exact hK.out _ _ ⟨v20, v23, v24, v28, v29, g, g9, g10, (by rw [ha.out]; exact putSel_upk 8 hb_ rfl rfl rfl), J.to11 (hoff 14 (by kernel_rfl)) hg hbox hb⟩
      refine steps_cons ?_ ?_
      · rintro b a w' ⟨v20, v23, v24, v28, v29, g8, g9, g10, ha, J⟩ hb_ hon hoff
        refine ⟨_, rfl, fun K hK => ?_⟩
        replace ha := Aside0.mk ha
        refine box_step ?hg (N := 9) ?hd (cs := zc) (t := 27) ?hr ?_
        case hd => rfl
        case hg => rfl
        case hr => first | (go_simp; done) | (go_simp; rfl)
        intro g hg w10 hbox hb
        exact hK.out _ _ ⟨v20, v23, v24, v28, v29, g8, g, g10, (by rw [ha.out]; exact putSel_upk 9 hb_ rfl rfl rfl), J.to12 (hoff 15 (by kernel_rfl)) hg hbox hb⟩
      refine steps_cons ?_ ?_
      · rintro b a w' ⟨v20, v23, v24, v28, v29, g8, g9, g10, ha, J⟩ hb_ hon hoff
        refine ⟨_, rfl, fun K hK => ?_⟩
        replace ha := Aside0.mk ha
        refine box_step ?hg (N := 10) ?hd (cs := zc) (t := 27) ?hr ?_
        case hd => rfl
        case hg => rfl
        case hr => first | (go_simp; done) | (go_simp; rfl)
        intro g hg w10 hbox hb
        exact hK.out _ _ ⟨v20, v23, v24, v28, v29, g8, g9, g, (by rw [ha.out]; exact putSel_upk 10 hb_ rfl rfl rfl), J.to13 (hoff 16 (by kernel_rfl)) hg hbox hb⟩
      refine steps_cons ?_ ?_
      · rintro b a w' ⟨v20, v23, v24, v28, v29, g8, g9, g10, ha, J⟩ hb_ hon hoff
        refine ⟨_, rfl, fun K hK => ?_⟩
        have e8 : a.tmps[8]? = some (.pointer (some ⟨g8, 0, none⟩)) := by rw [ha]; exact putSel_on (e := (11, 8, .pointer (some ⟨g8, 0, none⟩))) 8 rfl rfl (hon 11 (by kernel_rfl)) rfl
        have e20 : a.tmps[20]? = some (.agg #[.int .i64 6, .int .i64 0, .float .f64 0, .string (⟨#[]⟩ : ByteArray), v20]) := by rw [ha]; exact putSel_on (e := (1, 20, .agg #[.int .i64 6, .int .i64 0, .float .f64 0, .string (⟨#[]⟩ : ByteArray), v20])) 0 rfl rfl (hon 1 (by kernel_rfl)) rfl
        replace ha := Aside0.mk ha
        have o1 := hon 1 (by kernel_rfl)
        have o5 := hon 5 (by kernel_rfl)
        have o10 := hon 10 (by kernel_rfl)
        have o11 := hon 11 (by kernel_rfl)
        have o12 := hon 12 (by kernel_rfl)
        have o13 := hon 13 (by kernel_rfl)
        have hk := (J.k8 o11).2
        rw [if_neg (by rw [hb_]; decide)] at hk
        obtain ⟨Av, cv, ev⟩ := Kd.R_slice (J.h1 o1)
        subst ev
        have hs0 : w'.cell? ⟨g8, 0, none⟩ = some (.int .i64 0) := (blk_cell hk 0).trans rfl
        have hf0 := blk_frozen hk 0
        have hs1 : w'.cell? ⟨g8, 1, none⟩ = some (.int .i64 0) := (blk_cell hk 1).trans rfl
        have hf1 := blk_frozen hk 1
        have hs2 : w'.cell? ⟨g8, 2, none⟩ = some (.float .f64 0) := (blk_cell hk 2).trans rfl
        have hf2 := blk_frozen hk 2
        have hs3 : w'.cell? ⟨g8, 3, none⟩ = some (.string (⟨#[]⟩ : ByteArray)) := (blk_cell hk 3).trans rfl
        have hf3 := blk_frozen hk 3
        have hs4 : w'.cell? ⟨g8, 4, none⟩ = some (.slice none 0 0) := (blk_cell hk 4).trans rfl
        have hf4 := blk_frozen hk 4
        refine skip_ (w1 := put5 w' g8 (.slice Av (L ++ []).length cv)) (by rfl) rfl ?_ ?_
        · unfold put5
          go_simp
          try rfl
        exact hK.out _ _ ⟨.slice Av (L ++ []).length cv, v23, v24, v28, v29, g8, g9, g10, (by rw [ha.out]; exact putSel_none (v := undef) rfl), J.to14 o11 o12 o13 hb_⟩
      refine steps_cons ?_ ?_
      · rintro b a w' ⟨v20, v23, v24, v28, v29, g8, g9, g10, ha, J⟩ hb_ hon hoff
        refine ⟨_, rfl, fun K hK => ?_⟩
        have e9 : a.tmps[9]? = some (.pointer (some ⟨g9, 0, none⟩)) := by rw [ha]; exact putSel_on (e := (12, 9, .pointer (some ⟨g9, 0, none⟩))) 9 rfl rfl (hon 12 (by kernel_rfl)) rfl
        have e24 : a.tmps[24]? = some (.agg #[.int .i64 6, .int .i64 0, .float .f64 0, .string (⟨#[]⟩ : ByteArray), v24]) := by rw [ha]; exact putSel_on (e := (5, 24, .agg #[.int .i64 6, .int .i64 0, .float .f64 0, .string (⟨#[]⟩ : ByteArray), v24])) 3 rfl rfl (hon 5 (by kernel_rfl)) rfl
        replace ha := Aside0.mk ha
        have o1 := hon 1 (by kernel_rfl)
        have o5 := hon 5 (by kernel_rfl)
        have o10 := hon 10 (by kernel_rfl)
        have o11 := hon 11 (by kernel_rfl)
        have o12 := hon 12 (by kernel_rfl)
        have o13 := hon 13 (by kernel_rfl)
        have hk := (J.k9 o12).2
        rw [if_neg (by rw [hb_]; decide)] at hk
        obtain ⟨Av, cv, ev⟩ := Kd.R_slice (J.h5 o5)
        subst ev
        have hs0 : w'.cell? ⟨g9, 0, none⟩ = some (.int .i64 0) := (blk_cell hk 0).trans rfl
        have hf0 := blk_frozen hk 0
        have hs1 : w'.cell? ⟨g9, 1, none⟩ = some (.int .i64 0) := (blk_cell hk 1).trans rfl
        have hf1 := blk_frozen hk 1
        have hs2 : w'.cell? ⟨g9, 2, none⟩ = some (.float .f64 0) := (blk_cell hk 2).trans rfl
        have hf2 := blk_frozen hk 2
        have hs3 : w'.cell? ⟨g9, 3, none⟩ = some (.string (⟨#[]⟩ : ByteArray)) := (blk_cell hk 3).trans rfl
        have hf3 := blk_frozen hk 3
        have hs4 : w'.cell? ⟨g9, 4, none⟩ = some (.slice none 0 0) := (blk_cell hk 4).trans rfl
        have hf4 := blk_frozen hk 4
        refine skip_ (w1 := put5 w' g9 (.slice Av (L ++ [(⟨p0, p1, p2, p3⟩ : S25)]).length cv)) (by rfl) rfl ?_ ?_
        · unfold put5
          go_simp
          try rfl
        exact hK.out _ _ ⟨v20, v23, .slice Av (L ++ [(⟨p0, p1, p2, p3⟩ : S25)]).length cv, v28, v29, g8, g9, g10, (by rw [ha.out]; exact putSel_none (v := undef) rfl), J.to15 o11 o12 o13 hb_⟩
      refine steps_cons ?_ ?_
      · rintro b a w' ⟨v20, v23, v24, v28, v29, g8, g9, g10, ha, J⟩ hb_ hon hoff
        refine ⟨_, rfl, fun K hK => ?_⟩
        have e10 : a.tmps[10]? = some (.pointer (some ⟨g10, 0, none⟩)) := by rw [ha]; exact putSel_on (e := (13, 10, .pointer (some ⟨g10, 0, none⟩))) 10 rfl rfl (hon 13 (by kernel_rfl)) rfl
        have e29 : a.tmps[29]? = some (.agg #[.int .i64 6, .int .i64 0, .float .f64 0, .string (⟨#[]⟩ : ByteArray), v29]) := by rw [ha]; exact putSel_on (e := (10, 29, .agg #[.int .i64 6, .int .i64 0, .float .f64 0, .string (⟨#[]⟩ : ByteArray), v29])) 7 rfl rfl (hon 10 (by kernel_rfl)) rfl
        replace ha := Aside0.mk ha
        have o1 := hon 1 (by kernel_rfl)
        have o5 := hon 5 (by kernel_rfl)
        have o10 := hon 10 (by kernel_rfl)
        have o11 := hon 11 (by kernel_rfl)
        have o12 := hon 12 (by kernel_rfl)
        have o13 := hon 13 (by kernel_rfl)
        have hk := (J.k10 o13).2
        rw [if_neg (by rw [hb_]; decide)] at hk
        obtain ⟨Av, cv, ev⟩ := Kd.R_slice (J.h10 o10)
        subst ev
        have hs0 : w'.cell? ⟨g10, 0, none⟩ = some (.int .i64 0) := (blk_cell hk 0).trans rfl
        have hf0 := blk_frozen hk 0
        have hs1 : w'.cell? ⟨g10, 1, none⟩ = some (.int .i64 0) := (blk_cell hk 1).trans rfl
        have hf1 := blk_frozen hk 1
        have hs2 : w'.cell? ⟨g10, 2, none⟩ = some (.float .f64 0) := (blk_cell hk 2).trans rfl
        have hf2 := blk_frozen hk 2
        have hs3 : w'.cell? ⟨g10, 3, none⟩ = some (.string (⟨#[]⟩ : ByteArray)) := (blk_cell hk 3).trans rfl
        have hf3 := blk_frozen hk 3
        have hs4 : w'.cell? ⟨g10, 4, none⟩ = some (.slice none 0 0) := (blk_cell hk 4).trans rfl
        have hf4 := blk_frozen hk 4
        refine skip_ (w1 := put5 w' g10 (.slice Av (L ++ [(⟨q0, q1, q2, q3⟩ : S25), (⟨p0, p1, p2, p3⟩ : S25)]).length cv)) (by rfl) rfl ?_ ?_
        · unfold put5
          go_simp
          try rfl
        exact hK.out _ _ ⟨v20, v23, v24, v28, .slice Av (L ++ [(⟨q0, q1, q2, q3⟩ : S25), (⟨p0, p1, p2, p3⟩ : S25)]).length cv, g8, g9, g10, (by rw [ha.out]; exact putSel_none (v := undef) rfl), J.to16 o11 o12 o13 hb_⟩
      exact steps_nil
    rintro b a w10 hall ⟨v20, v23, v24, v28, v29, g8, g9, g10, ha, J⟩
    have hb1_ := hall 1 (by kernel_rfl)
    have hb3_ := hall 3 (by kernel_rfl)
    have hb4_ := hall 4 (by kernel_rfl)
    have hb5_ := hall 5 (by kernel_rfl)
    have hb7_ := hall 7 (by kernel_rfl)
    have hb8_ := hall 8 (by kernel_rfl)
    have hb9_ := hall 9 (by kernel_rfl)
    have hb10_ := hall 10 (by kernel_rfl)
    have hb11_ := hall 11 (by kernel_rfl)
    have hb12_ := hall 12 (by kernel_rfl)
    have hb13_ := hall 13 (by kernel_rfl)
    have hb14_ := hall 14 (by kernel_rfl)
    have hb15_ := hall 15 (by kernel_rfl)
    have hb16_ := hall 16 (by kernel_rfl)
    subst ha
    simp only [putSel, hb1_, hb3_, hb4_, hb5_, hb7_, hb8_, hb9_, hb10_, hb11_, hb12_, hb13_, hb14_, hb15_, hb16_, if_true, Act.put, List.setIfInBounds_toArray, List.set_cons_zero, List.set_cons_succ]
    have n1_ := Aside0.mk (below_step HB.out J.B)
    have n2_ := Aside0.mk (blk_below BA.out J.B)
    have n3_ := Aside0.mk (blk_below BB.out J.B)
    have n4_ := Aside0.mk (blk_below BC.out J.B)
    obtain ⟨A1, c1, e1⟩ := Kd.R_slice (J.h1 hb1_)
    subst e1
    have HX1 := Aside0.mk (Kd.R_reads' (J.h1 hb1_)).2.2
    have HS1 := Aside0.mk (Kd.R_reads' (J.h1 hb1_)).2.1
    have hk11 := (J.k8 hb11_).2
    rw [if_pos hb14_] at hk11
    have BK11 := Aside0.mk hk11
    clear hk11
    obtain ⟨A5, c5, e5⟩ := Kd.R_slice (J.h5 hb5_)
    subst e5
    have HX5 := Aside0.mk (Kd.R_reads' (J.h5 hb5_)).2.2
    have HS5 := Aside0.mk (Kd.R_reads' (J.h5 hb5_)).2.1
    have hk12 := (J.k9 hb12_).2
    rw [if_pos hb15_] at hk12
    have BK12 := Aside0.mk hk12
    clear hk12
    obtain ⟨A10, c10, e10⟩ := Kd.R_slice (J.h10 hb10_)
    subst e10
    have HX10 := Aside0.mk (Kd.R_reads' (J.h10 hb10_)).2.2
    have HS10 := Aside0.mk (Kd.R_reads' (J.h10 hb10_)).2.1
    have hk13 := (J.k10 hb13_).2
    rw [if_pos hb16_] at hk13
    have BK13 := Aside0.mk hk13
    clear hk13
    clear J hall HB BA BB BC HR9 HRL
    have HB := n1_
    have BA := n2_
    have BB := n3_
    have BC := n4_
    clear n1_ n2_ n3_ n4_ hHeld HT_ HW_
    clear hb1_ hb3_ hb4_ hb5_ hb7_ hb8_ hb9_ hb10_ hb11_ hb12_ hb13_ hb14_ hb15_ hb16_
    have HRL : Aside0 (Kd.C k25 w10 A0 L.length L) := ⟨Kd.C_below HRw.out HB.out⟩
    generalize ((L ++ []) : List S25) = X at HX1 HS1 BK11 hv1 hk
    generalize ((L ++ [(⟨p0, p1, p2, p3⟩ : S25)]) : List S25) = Y at HX5 HS5 BK12 hv2 hk
    generalize ((L ++ [(⟨q0, q1, q2, q3⟩ : S25), (⟨p0, p1, p2, p3⟩ : S25)]) : List S25) = Z at HX10 HS10 BK13 hv3 hk
    try go_wp2
    go_loopg [11] L.length (fun kq v11 w' => ∃ i : Int, v11 = .int .i64 i ∧ Aside0 (0 ≤ i ∧ i + kq = L.length) ∧ Aside0 (Below w10.heap.size w10 w'))
    case atStart => exact ⟨0, rfl, ⟨by omega⟩, ⟨Below.refl _ _⟩⟩
    case round =>
      obtain ⟨i, rfl, HI, HQ⟩ := hrel
      have HQ' := HQ.out
      have hi0 := HI.out.1
      have hca : wr.cell? ⟨ga, 0, none⟩ = some (.slice A0 L.length c0) := (blk_cell (blk_below BA.out HQ.out) 0).trans rfl
      by_cases c : i < (L.length : Int)
      · have cb : decide (i < (L.length : Int)) = true := decide_eq_true c
        obtain ⟨ad, e, hx0, hx1, hx2, hx3⟩ := at_T25 (Kd.C_below HRL.out HQ.out) i hi0 c
        cases e
        have p := eq_true hi0
        have q := eq_true c
        by_cases d : ((rd_T25 L i).f3.size : Int) > 256
        · have db : decide (256 < ((rd_T25 L i).f3.size : Int)) = true := decide_eq_true d
          have dc : decide (256 < (rd_T25 L i).f3.size) = true := decide_eq_true (by omega)
          go_wp2
          go_ret
          exact ⟨rfl, by (with_reducible repeat (first | apply below_alloc | apply pw_below_drewN | apply below_drew1)); exact below_step HB.out HQ.out⟩
        · have db : decide (256 < ((rd_T25 L i).f3.size : Int)) = false := decide_eq_false d
          have dc : decide (256 < (rd_T25 L i).f3.size) = false := decide_eq_false (by omega)
          have hw : wrap64 (i + 1) = i + 1 := by have := HL14.out; unfold wrap64; omega
          go_wp2
          go_roundg (gk - 1)
          case measure => have := HI.out; omega
          case rel => exact ⟨i + 1, (by first | rfl | simp [i64_w, hw]), ⟨by have := HI.out; omega⟩, ⟨by (with_reducible repeat (first | apply below_alloc | apply pw_below_drewN | apply below_drew1)); exact HQ.out⟩⟩
      · have cb : decide (i < (L.length : Int)) = false := decide_eq_false c
        go_upto_region 10 with (fail)
        have hcl1 : wr.cell? ⟨gb, 0, none⟩ = some (.int .i64 p0) := (blk_cell (blk_below BB.out HQ.out) 0).trans rfl
        have hcl2 : wr.cell? ⟨gb, 1, none⟩ = some (.int .i64 p1) := (blk_cell (blk_below BB.out HQ.out) 1).trans rfl
        have hcl3 : wr.cell? ⟨gb, 2, none⟩ = some (.float .f64 p2) := (blk_cell (blk_below BB.out HQ.out) 2).trans rfl
        have hcl4 : wr.cell? ⟨gb, 3, none⟩ = some (.string p3) := (blk_cell (blk_below BB.out HQ.out) 3).trans rfl
        have hcl5 : wr.cell? ⟨gc, 0, none⟩ = some (.int .i64 q0) := (blk_cell (blk_below BC.out HQ.out) 0).trans rfl
        have hcl6 : wr.cell? ⟨gc, 1, none⟩ = some (.int .i64 q1) := (blk_cell (blk_below BC.out HQ.out) 1).trans rfl
        have hcl7 : wr.cell? ⟨gc, 2, none⟩ = some (.float .f64 q2) := (blk_cell (blk_below BC.out HQ.out) 2).trans rfl
        have hcl8 : wr.cell? ⟨gc, 3, none⟩ = some (.string q3) := (blk_cell (blk_below BC.out HQ.out) 3).trans rfl
        have hcl9 : wr.cell? ⟨g8, 0, none⟩ = some (.int .i64 6) := (blk_cell (blk_below BK11.out HQ.out) 0).trans rfl
        have hcl10 : wr.cell? ⟨g8, 1, none⟩ = some (.int .i64 0) := (blk_cell (blk_below BK11.out HQ.out) 1).trans rfl
        have hcl11 : wr.cell? ⟨g8, 2, none⟩ = some (.float .f64 0) := (blk_cell (blk_below BK11.out HQ.out) 2).trans rfl
        have hcl12 : wr.cell? ⟨g8, 3, none⟩ = some (.string (⟨#[]⟩ : ByteArray)) := (blk_cell (blk_below BK11.out HQ.out) 3).trans rfl
        have hcl13 : wr.cell? ⟨g8, 4, none⟩ = some (.slice A1 X.length c1) := (blk_cell (blk_below BK11.out HQ.out) 4).trans rfl
        by_cases d1 : (p3.size : Int) > 256
        · have d1b : decide (256 < (p3.size : Int)) = true := decide_eq_true d1
          have d1c : decide (256 < p3.size) = true := decide_eq_true (by omega)
          go_wp2_with (first | (go_at_call 7; (with_reducible refine (value_OfInt.calls 1 2 1 0 (⟨#[]⟩ : ByteArray) [] _ rfl).mono ?_); rintro e w22 ⟨v1_, rfl, ho, hb⟩; obtain ⟨Ai1, ci1, ei1⟩ := Kd.R_slice ho; subst ei1; have HI1 := Aside0.mk (Kd.R_reads' ho).2.2; have HJ1 := Aside0.mk (Kd.R_reads' ho).2.1; have n1_ := Aside0.mk (below_step HQ.out hb); clear HQ; have HQ := n1_; clear n1_ hb ho) | (go_at_call 7; (with_reducible refine (value_OfInt.calls 2 2 2 0 (⟨#[]⟩ : ByteArray) [] _ rfl).mono ?_); rintro e w23 ⟨v2_, rfl, ho, hb⟩; obtain ⟨Ai2, ci2, ei2⟩ := Kd.R_slice ho; subst ei2; have HI2 := Aside0.mk (Kd.R_reads' ho).2.2; have HJ2 := Aside0.mk (Kd.R_reads' ho).2.1; have n2_ := Aside0.mk (Kd.C_below HI1.out hb); clear HI1; have HI1 := n2_; clear n2_; have n1_ := Aside0.mk (below_step HQ.out hb); clear HQ; have HQ := n1_; clear n1_ hb ho) | (go_at_call 6; (refine (value_Compare.calls k 2 1 0 (⟨#[]⟩ : ByteArray) Ai1 ci1 [] 2 2 0 (⟨#[]⟩ : ByteArray) Ai2 ci2 [] (-1) _ HI1.out HJ1.out HI2.out HJ2.out hq.out).mono ?_); rintro e w21 ⟨rfl, hb⟩; have n1_ := Aside0.mk (below_step HQ.out hb); clear HQ; have HQ := n1_; clear n1_ hb))
          go_ret
          exact ⟨rfl, by (with_reducible repeat (first | apply below_alloc | apply pw_below_drewN | apply below_drew1)); exact below_step HB.out HQ.out⟩
        · have d1b : decide (256 < (p3.size : Int)) = false := decide_eq_false d1
          have d1c : decide (256 < p3.size) = false := decide_eq_false (by omega)
          by_cases d2 : (q3.size : Int) > 256
          · have d2b : decide (256 < (q3.size : Int)) = true := decide_eq_true d2
            have d2c : decide (256 < q3.size) = true := decide_eq_true (by omega)
            go_wp2_with (first | (go_at_call 7; (with_reducible refine (value_OfInt.calls 1 2 1 0 (⟨#[]⟩ : ByteArray) [] _ rfl).mono ?_); rintro e w25 ⟨v1_, rfl, ho, hb⟩; obtain ⟨Ai1, ci1, ei1⟩ := Kd.R_slice ho; subst ei1; have HI1 := Aside0.mk (Kd.R_reads' ho).2.2; have HJ1 := Aside0.mk (Kd.R_reads' ho).2.1; have n1_ := Aside0.mk (below_step HQ.out hb); clear HQ; have HQ := n1_; clear n1_ hb ho) | (go_at_call 7; (with_reducible refine (value_OfInt.calls 2 2 2 0 (⟨#[]⟩ : ByteArray) [] _ rfl).mono ?_); rintro e w26 ⟨v2_, rfl, ho, hb⟩; obtain ⟨Ai2, ci2, ei2⟩ := Kd.R_slice ho; subst ei2; have HI2 := Aside0.mk (Kd.R_reads' ho).2.2; have HJ2 := Aside0.mk (Kd.R_reads' ho).2.1; have n2_ := Aside0.mk (Kd.C_below HI1.out hb); clear HI1; have HI1 := n2_; clear n2_; have n1_ := Aside0.mk (below_step HQ.out hb); clear HQ; have HQ := n1_; clear n1_ hb ho) | (go_at_call 6; (refine (value_Compare.calls k 2 1 0 (⟨#[]⟩ : ByteArray) Ai1 ci1 [] 2 2 0 (⟨#[]⟩ : ByteArray) Ai2 ci2 [] (-1) _ HI1.out HJ1.out HI2.out HJ2.out hq.out).mono ?_); rintro e w24 ⟨rfl, hb⟩; have n1_ := Aside0.mk (below_step HQ.out hb); clear HQ; have HQ := n1_; clear n1_ hb))
            go_ret
            exact ⟨rfl, by (with_reducible repeat (first | apply below_alloc | apply pw_below_drewN | apply below_drew1)); exact below_step HB.out HQ.out⟩
          · have d2b : decide (256 < (q3.size : Int)) = false := decide_eq_false d2
            have d2c : decide (256 < q3.size) = false := decide_eq_false (by omega)
            cases v1 with
            | false =>
              go_wp2_with (first | (go_at_call 5; (with_reducible refine (cobwebref03_Valid.calls k 6 0 0 (⟨#[]⟩ : ByteArray) A1 c1 X false _ (Kd.C_below HX1.out HQ.out) HS1.out hv1.out).mono ?_); rintro e w27 ⟨rfl, hb⟩; have n1_ := Aside0.mk (below_step HQ.out hb); clear HQ; have HQ := n1_; clear n1_ hb; ) | (go_at_call 7; (with_reducible refine (value_OfInt.calls 1 2 1 0 (⟨#[]⟩ : ByteArray) [] _ rfl).mono ?_); rintro e w29 ⟨v1_, rfl, ho, hb⟩; obtain ⟨Ai1, ci1, ei1⟩ := Kd.R_slice ho; subst ei1; have HI1 := Aside0.mk (Kd.R_reads' ho).2.2; have HJ1 := Aside0.mk (Kd.R_reads' ho).2.1; have n1_ := Aside0.mk (below_step HQ.out hb); clear HQ; have HQ := n1_; clear n1_ hb ho) | (go_at_call 7; (with_reducible refine (value_OfInt.calls 2 2 2 0 (⟨#[]⟩ : ByteArray) [] _ rfl).mono ?_); rintro e w30 ⟨v2_, rfl, ho, hb⟩; obtain ⟨Ai2, ci2, ei2⟩ := Kd.R_slice ho; subst ei2; have HI2 := Aside0.mk (Kd.R_reads' ho).2.2; have HJ2 := Aside0.mk (Kd.R_reads' ho).2.1; have n2_ := Aside0.mk (Kd.C_below HI1.out hb); clear HI1; have HI1 := n2_; clear n2_; have n1_ := Aside0.mk (below_step HQ.out hb); clear HQ; have HQ := n1_; clear n1_ hb ho) | (go_at_call 6; (refine (value_Compare.calls k 2 1 0 (⟨#[]⟩ : ByteArray) Ai1 ci1 [] 2 2 0 (⟨#[]⟩ : ByteArray) Ai2 ci2 [] (-1) _ HI1.out HJ1.out HI2.out HJ2.out hq.out).mono ?_); rintro e w28 ⟨rfl, hb⟩; have n1_ := Aside0.mk (below_step HQ.out hb); clear HQ; have HQ := n1_; clear n1_ hb))
              go_ret
              exact ⟨rfl, by (with_reducible repeat (first | apply below_alloc | apply pw_below_drewN | apply below_drew1)); exact below_step HB.out HQ.out⟩
            | true =>
              cases v2 with
              | false =>
                go_wp2_with (first | (go_at_call 5; (with_reducible refine (cobwebref03_Valid.calls k 6 0 0 (⟨#[]⟩ : ByteArray) A1 c1 X true _ (Kd.C_below HX1.out HQ.out) HS1.out hv1.out).mono ?_); rintro e w31 ⟨rfl, hb⟩; have n1_ := Aside0.mk (below_step HQ.out hb); clear HQ; have HQ := n1_; clear n1_ hb; have hcl14 : w31.cell? ⟨g9, 0, none⟩ = some (.int .i64 6) := (blk_cell (blk_below BK12.out HQ.out) 0).trans rfl; have hcl15 : w31.cell? ⟨g9, 1, none⟩ = some (.int .i64 0) := (blk_cell (blk_below BK12.out HQ.out) 1).trans rfl; have hcl16 : w31.cell? ⟨g9, 2, none⟩ = some (.float .f64 0) := (blk_cell (blk_below BK12.out HQ.out) 2).trans rfl; have hcl17 : w31.cell? ⟨g9, 3, none⟩ = some (.string (⟨#[]⟩ : ByteArray)) := (blk_cell (blk_below BK12.out HQ.out) 3).trans rfl; have hcl18 : w31.cell? ⟨g9, 4, none⟩ = some (.slice A5 Y.length c5) := (blk_cell (blk_below BK12.out HQ.out) 4).trans rfl) | (go_at_call 5; (with_reducible refine (cobwebref03_Valid.calls k 6 0 0 (⟨#[]⟩ : ByteArray) A5 c5 Y false _ (Kd.C_below HX5.out HQ.out) HS5.out hv2.out).mono ?_); rintro e w32 ⟨rfl, hb⟩; have n1_ := Aside0.mk (below_step HQ.out hb); clear HQ; have HQ := n1_; clear n1_ hb; ) | (go_at_call 7; (with_reducible refine (value_OfInt.calls 1 2 1 0 (⟨#[]⟩ : ByteArray) [] _ rfl).mono ?_); rintro e w34 ⟨v1_, rfl, ho, hb⟩; obtain ⟨Ai1, ci1, ei1⟩ := Kd.R_slice ho; subst ei1; have HI1 := Aside0.mk (Kd.R_reads' ho).2.2; have HJ1 := Aside0.mk (Kd.R_reads' ho).2.1; have n1_ := Aside0.mk (below_step HQ.out hb); clear HQ; have HQ := n1_; clear n1_ hb ho) | (go_at_call 7; (with_reducible refine (value_OfInt.calls 2 2 2 0 (⟨#[]⟩ : ByteArray) [] _ rfl).mono ?_); rintro e w35 ⟨v2_, rfl, ho, hb⟩; obtain ⟨Ai2, ci2, ei2⟩ := Kd.R_slice ho; subst ei2; have HI2 := Aside0.mk (Kd.R_reads' ho).2.2; have HJ2 := Aside0.mk (Kd.R_reads' ho).2.1; have n2_ := Aside0.mk (Kd.C_below HI1.out hb); clear HI1; have HI1 := n2_; clear n2_; have n1_ := Aside0.mk (below_step HQ.out hb); clear HQ; have HQ := n1_; clear n1_ hb ho) | (go_at_call 6; (refine (value_Compare.calls k 2 1 0 (⟨#[]⟩ : ByteArray) Ai1 ci1 [] 2 2 0 (⟨#[]⟩ : ByteArray) Ai2 ci2 [] (-1) _ HI1.out HJ1.out HI2.out HJ2.out hq.out).mono ?_); rintro e w33 ⟨rfl, hb⟩; have n1_ := Aside0.mk (below_step HQ.out hb); clear HQ; have HQ := n1_; clear n1_ hb))
                go_ret
                exact ⟨rfl, by (with_reducible repeat (first | apply below_alloc | apply pw_below_drewN | apply below_drew1)); exact below_step HB.out HQ.out⟩
              | true =>
                cases v3 with
                | false =>
                  go_wp2_with (first | (go_at_call 5; (with_reducible refine (cobwebref03_Valid.calls k 6 0 0 (⟨#[]⟩ : ByteArray) A1 c1 X true _ (Kd.C_below HX1.out HQ.out) HS1.out hv1.out).mono ?_); rintro e w36 ⟨rfl, hb⟩; have n1_ := Aside0.mk (below_step HQ.out hb); clear HQ; have HQ := n1_; clear n1_ hb; have hcl19 : w36.cell? ⟨g9, 0, none⟩ = some (.int .i64 6) := (blk_cell (blk_below BK12.out HQ.out) 0).trans rfl; have hcl20 : w36.cell? ⟨g9, 1, none⟩ = some (.int .i64 0) := (blk_cell (blk_below BK12.out HQ.out) 1).trans rfl; have hcl21 : w36.cell? ⟨g9, 2, none⟩ = some (.float .f64 0) := (blk_cell (blk_below BK12.out HQ.out) 2).trans rfl; have hcl22 : w36.cell? ⟨g9, 3, none⟩ = some (.string (⟨#[]⟩ : ByteArray)) := (blk_cell (blk_below BK12.out HQ.out) 3).trans rfl; have hcl23 : w36.cell? ⟨g9, 4, none⟩ = some (.slice A5 Y.length c5) := (blk_cell (blk_below BK12.out HQ.out) 4).trans rfl) | (go_at_call 5; (with_reducible refine (cobwebref03_Valid.calls k 6 0 0 (⟨#[]⟩ : ByteArray) A5 c5 Y true _ (Kd.C_below HX5.out HQ.out) HS5.out hv2.out).mono ?_); rintro e w37 ⟨rfl, hb⟩; have n1_ := Aside0.mk (below_step HQ.out hb); clear HQ; have HQ := n1_; clear n1_ hb; have hcl24 : w37.cell? ⟨g10, 0, none⟩ = some (.int .i64 6) := (blk_cell (blk_below BK13.out HQ.out) 0).trans rfl; have hcl25 : w37.cell? ⟨g10, 1, none⟩ = some (.int .i64 0) := (blk_cell (blk_below BK13.out HQ.out) 1).trans rfl; have hcl26 : w37.cell? ⟨g10, 2, none⟩ = some (.float .f64 0) := (blk_cell (blk_below BK13.out HQ.out) 2).trans rfl; have hcl27 : w37.cell? ⟨g10, 3, none⟩ = some (.string (⟨#[]⟩ : ByteArray)) := (blk_cell (blk_below BK13.out HQ.out) 3).trans rfl; have hcl28 : w37.cell? ⟨g10, 4, none⟩ = some (.slice A10 Z.length c10) := (blk_cell (blk_below BK13.out HQ.out) 4).trans rfl) | (go_at_call 5; (with_reducible refine (cobwebref03_Valid.calls k 6 0 0 (⟨#[]⟩ : ByteArray) A10 c10 Z false _ (Kd.C_below HX10.out HQ.out) HS10.out hv3.out).mono ?_); rintro e w38 ⟨rfl, hb⟩; have n1_ := Aside0.mk (below_step HQ.out hb); clear HQ; have HQ := n1_; clear n1_ hb; ) | (go_at_call 7; (with_reducible refine (value_OfInt.calls 1 2 1 0 (⟨#[]⟩ : ByteArray) [] _ rfl).mono ?_); rintro e w40 ⟨v1_, rfl, ho, hb⟩; obtain ⟨Ai1, ci1, ei1⟩ := Kd.R_slice ho; subst ei1; have HI1 := Aside0.mk (Kd.R_reads' ho).2.2; have HJ1 := Aside0.mk (Kd.R_reads' ho).2.1; have n1_ := Aside0.mk (below_step HQ.out hb); clear HQ; have HQ := n1_; clear n1_ hb ho) | (go_at_call 7; (with_reducible refine (value_OfInt.calls 2 2 2 0 (⟨#[]⟩ : ByteArray) [] _ rfl).mono ?_); rintro e w41 ⟨v2_, rfl, ho, hb⟩; obtain ⟨Ai2, ci2, ei2⟩ := Kd.R_slice ho; subst ei2; have HI2 := Aside0.mk (Kd.R_reads' ho).2.2; have HJ2 := Aside0.mk (Kd.R_reads' ho).2.1; have n2_ := Aside0.mk (Kd.C_below HI1.out hb); clear HI1; have HI1 := n2_; clear n2_; have n1_ := Aside0.mk (below_step HQ.out hb); clear HQ; have HQ := n1_; clear n1_ hb ho) | (go_at_call 6; (refine (value_Compare.calls k 2 1 0 (⟨#[]⟩ : ByteArray) Ai1 ci1 [] 2 2 0 (⟨#[]⟩ : ByteArray) Ai2 ci2 [] (-1) _ HI1.out HJ1.out HI2.out HJ2.out hq.out).mono ?_); rintro e w39 ⟨rfl, hb⟩; have n1_ := Aside0.mk (below_step HQ.out hb); clear HQ; have HQ := n1_; clear n1_ hb))
                  go_ret
                  exact ⟨rfl, by (with_reducible repeat (first | apply below_alloc | apply pw_below_drewN | apply below_drew1)); exact below_step HB.out HQ.out⟩
                | true =>
                  obtain ⟨r, hk1, hk2, hk3, hk4⟩ := hk.out rfl rfl rfl
                  replace hk1 := Aside0.mk hk1
                  replace hk2 := Aside0.mk hk2
                  replace hk3 := Aside0.mk hk3
                  replace hk4 := Aside0.mk hk4
                  by_cases dr : r = 0
                  · subst dr
                    rw [if_pos rfl] at hk4
                    go_wp2_with (first | (go_at_call 5; (with_reducible refine (cobwebref03_Valid.calls k 6 0 0 (⟨#[]⟩ : ByteArray) A1 c1 X true _ (Kd.C_below HX1.out HQ.out) HS1.out hv1.out).mono ?_); rintro e w42 ⟨rfl, hb⟩; have n1_ := Aside0.mk (below_step HQ.out hb); clear HQ; have HQ := n1_; clear n1_ hb; have hcl29 : w42.cell? ⟨g9, 0, none⟩ = some (.int .i64 6) := (blk_cell (blk_below BK12.out HQ.out) 0).trans rfl; have hcl30 : w42.cell? ⟨g9, 1, none⟩ = some (.int .i64 0) := (blk_cell (blk_below BK12.out HQ.out) 1).trans rfl; have hcl31 : w42.cell? ⟨g9, 2, none⟩ = some (.float .f64 0) := (blk_cell (blk_below BK12.out HQ.out) 2).trans rfl; have hcl32 : w42.cell? ⟨g9, 3, none⟩ = some (.string (⟨#[]⟩ : ByteArray)) := (blk_cell (blk_below BK12.out HQ.out) 3).trans rfl; have hcl33 : w42.cell? ⟨g9, 4, none⟩ = some (.slice A5 Y.length c5) := (blk_cell (blk_below BK12.out HQ.out) 4).trans rfl) | (go_at_call 5; (with_reducible refine (cobwebref03_Valid.calls k 6 0 0 (⟨#[]⟩ : ByteArray) A5 c5 Y true _ (Kd.C_below HX5.out HQ.out) HS5.out hv2.out).mono ?_); rintro e w43 ⟨rfl, hb⟩; have n1_ := Aside0.mk (below_step HQ.out hb); clear HQ; have HQ := n1_; clear n1_ hb; have hcl34 : w43.cell? ⟨g10, 0, none⟩ = some (.int .i64 6) := (blk_cell (blk_below BK13.out HQ.out) 0).trans rfl; have hcl35 : w43.cell? ⟨g10, 1, none⟩ = some (.int .i64 0) := (blk_cell (blk_below BK13.out HQ.out) 1).trans rfl; have hcl36 : w43.cell? ⟨g10, 2, none⟩ = some (.float .f64 0) := (blk_cell (blk_below BK13.out HQ.out) 2).trans rfl; have hcl37 : w43.cell? ⟨g10, 3, none⟩ = some (.string (⟨#[]⟩ : ByteArray)) := (blk_cell (blk_below BK13.out HQ.out) 3).trans rfl; have hcl38 : w43.cell? ⟨g10, 4, none⟩ = some (.slice A10 Z.length c10) := (blk_cell (blk_below BK13.out HQ.out) 4).trans rfl) | (go_at_call 5; (with_reducible refine (cobwebref03_Valid.calls k 6 0 0 (⟨#[]⟩ : ByteArray) A10 c10 Z true _ (Kd.C_below HX10.out HQ.out) HS10.out hv3.out).mono ?_); rintro e w44 ⟨rfl, hb⟩; have n1_ := Aside0.mk (below_step HQ.out hb); clear HQ; have HQ := n1_; clear n1_ hb; have hcl39 : w44.cell? ⟨gb, 0, none⟩ = some (.int .i64 p0) := (blk_cell (blk_below BB.out HQ.out) 0).trans rfl; have hcl40 : w44.cell? ⟨gb, 1, none⟩ = some (.int .i64 p1) := (blk_cell (blk_below BB.out HQ.out) 1).trans rfl; have hcl41 : w44.cell? ⟨gb, 2, none⟩ = some (.float .f64 p2) := (blk_cell (blk_below BB.out HQ.out) 2).trans rfl; have hcl42 : w44.cell? ⟨gb, 3, none⟩ = some (.string p3) := (blk_cell (blk_below BB.out HQ.out) 3).trans rfl; have hcl43 : w44.cell? ⟨gc, 0, none⟩ = some (.int .i64 q0) := (blk_cell (blk_below BC.out HQ.out) 0).trans rfl; have hcl44 : w44.cell? ⟨gc, 1, none⟩ = some (.int .i64 q1) := (blk_cell (blk_below BC.out HQ.out) 1).trans rfl; have hcl45 : w44.cell? ⟨gc, 2, none⟩ = some (.float .f64 q2) := (blk_cell (blk_below BC.out HQ.out) 2).trans rfl; have hcl46 : w44.cell? ⟨gc, 3, none⟩ = some (.string q3) := (blk_cell (blk_below BC.out HQ.out) 3).trans rfl) | (go_at_call 6; (with_reducible refine (value_Compare.calls k 6 0 0 (⟨#[]⟩ : ByteArray) A1 c1 X 6 0 0 (⟨#[]⟩ : ByteArray) A5 c5 Y (-1) _ (Kd.C_below HX1.out HQ.out) HS1.out (Kd.C_below HX5.out HQ.out) HS5.out hk2.out).mono ?_); rintro e w45 ⟨rfl, hb⟩; have n1_ := Aside0.mk (below_step HQ.out hb); clear HQ; have HQ := n1_; clear n1_ hb; have hcl47 : w45.cell? ⟨g8, 0, none⟩ = some (.int .i64 6) := (blk_cell (blk_below BK11.out HQ.out) 0).trans rfl; have hcl48 : w45.cell? ⟨g8, 1, none⟩ = some (.int .i64 0) := (blk_cell (blk_below BK11.out HQ.out) 1).trans rfl; have hcl49 : w45.cell? ⟨g8, 2, none⟩ = some (.float .f64 0) := (blk_cell (blk_below BK11.out HQ.out) 2).trans rfl; have hcl50 : w45.cell? ⟨g8, 3, none⟩ = some (.string (⟨#[]⟩ : ByteArray)) := (blk_cell (blk_below BK11.out HQ.out) 3).trans rfl; have hcl51 : w45.cell? ⟨g8, 4, none⟩ = some (.slice A1 X.length c1) := (blk_cell (blk_below BK11.out HQ.out) 4).trans rfl) | (go_at_call 6; (with_reducible refine (value_Compare.calls k 6 0 0 (⟨#[]⟩ : ByteArray) A1 c1 X 6 0 0 (⟨#[]⟩ : ByteArray) A1 c1 X 0 _ (Kd.C_below HX1.out HQ.out) HS1.out (Kd.C_below HX1.out HQ.out) HS1.out hk3.out).mono ?_); rintro e w46 ⟨rfl, hb⟩; have n1_ := Aside0.mk (below_step HQ.out hb); clear HQ; have HQ := n1_; clear n1_ hb; have hcl52 : w46.cell? ⟨g9, 0, none⟩ = some (.int .i64 6) := (blk_cell (blk_below BK12.out HQ.out) 0).trans rfl; have hcl53 : w46.cell? ⟨g9, 1, none⟩ = some (.int .i64 0) := (blk_cell (blk_below BK12.out HQ.out) 1).trans rfl; have hcl54 : w46.cell? ⟨g9, 2, none⟩ = some (.float .f64 0) := (blk_cell (blk_below BK12.out HQ.out) 2).trans rfl; have hcl55 : w46.cell? ⟨g9, 3, none⟩ = some (.string (⟨#[]⟩ : ByteArray)) := (blk_cell (blk_below BK12.out HQ.out) 3).trans rfl; have hcl56 : w46.cell? ⟨g9, 4, none⟩ = some (.slice A5 Y.length c5) := (blk_cell (blk_below BK12.out HQ.out) 4).trans rfl; have hcl57 : w46.cell? ⟨g10, 0, none⟩ = some (.int .i64 6) := (blk_cell (blk_below BK13.out HQ.out) 0).trans rfl; have hcl58 : w46.cell? ⟨g10, 1, none⟩ = some (.int .i64 0) := (blk_cell (blk_below BK13.out HQ.out) 1).trans rfl; have hcl59 : w46.cell? ⟨g10, 2, none⟩ = some (.float .f64 0) := (blk_cell (blk_below BK13.out HQ.out) 2).trans rfl; have hcl60 : w46.cell? ⟨g10, 3, none⟩ = some (.string (⟨#[]⟩ : ByteArray)) := (blk_cell (blk_below BK13.out HQ.out) 3).trans rfl; have hcl61 : w46.cell? ⟨g10, 4, none⟩ = some (.slice A10 Z.length c10) := (blk_cell (blk_below BK13.out HQ.out) 4).trans rfl) | (go_at_call 6; (with_reducible refine (value_Compare.calls k 6 0 0 (⟨#[]⟩ : ByteArray) A5 c5 Y 6 0 0 (⟨#[]⟩ : ByteArray) A10 c10 Z (-1) _ (Kd.C_below HX5.out HQ.out) HS5.out (Kd.C_below HX10.out HQ.out) HS10.out hk4.out).mono ?_); rintro e w47 ⟨rfl, hb⟩; have n1_ := Aside0.mk (below_step HQ.out hb); clear HQ; have HQ := n1_; clear n1_ hb; ) | (go_at_call 6; (refine (value_Compare.calls k p0 p1 p2 p3 none 0 [] q0 q1 q2 q3 none 0 [] 0 _ (Kd.C_nil _ _) (Nat.le_refl _) (Kd.C_nil _ _) (Nat.le_refl _) hk1.out).mono ?_); rintro e w48 ⟨rfl, hb⟩; have n1_ := Aside0.mk (below_step HQ.out hb); clear HQ; have HQ := n1_; clear n1_ hb; have hcl62 : w48.cell? ⟨g8, 0, none⟩ = some (.int .i64 6) := (blk_cell (blk_below BK11.out HQ.out) 0).trans rfl; have hcl63 : w48.cell? ⟨g8, 1, none⟩ = some (.int .i64 0) := (blk_cell (blk_below BK11.out HQ.out) 1).trans rfl; have hcl64 : w48.cell? ⟨g8, 2, none⟩ = some (.float .f64 0) := (blk_cell (blk_below BK11.out HQ.out) 2).trans rfl; have hcl65 : w48.cell? ⟨g8, 3, none⟩ = some (.string (⟨#[]⟩ : ByteArray)) := (blk_cell (blk_below BK11.out HQ.out) 3).trans rfl; have hcl66 : w48.cell? ⟨g8, 4, none⟩ = some (.slice A1 X.length c1) := (blk_cell (blk_below BK11.out HQ.out) 4).trans rfl; have hcl67 : w48.cell? ⟨g9, 0, none⟩ = some (.int .i64 6) := (blk_cell (blk_below BK12.out HQ.out) 0).trans rfl; have hcl68 : w48.cell? ⟨g9, 1, none⟩ = some (.int .i64 0) := (blk_cell (blk_below BK12.out HQ.out) 1).trans rfl; have hcl69 : w48.cell? ⟨g9, 2, none⟩ = some (.float .f64 0) := (blk_cell (blk_below BK12.out HQ.out) 2).trans rfl; have hcl70 : w48.cell? ⟨g9, 3, none⟩ = some (.string (⟨#[]⟩ : ByteArray)) := (blk_cell (blk_below BK12.out HQ.out) 3).trans rfl; have hcl71 : w48.cell? ⟨g9, 4, none⟩ = some (.slice A5 Y.length c5) := (blk_cell (blk_below BK12.out HQ.out) 4).trans rfl))
                    go_ret
                    exact ⟨rfl, by (with_reducible repeat (first | apply below_alloc | apply pw_below_drewN | apply below_drew1)); exact below_step HB.out HQ.out⟩
                  · rw [if_neg dr] at hk4
                    have drb : (r == 0) = false := beq_eq_false_iff_ne.mpr dr
                    go_wp2_with (first | (go_at_call 5; (with_reducible refine (cobwebref03_Valid.calls k 6 0 0 (⟨#[]⟩ : ByteArray) A1 c1 X true _ (Kd.C_below HX1.out HQ.out) HS1.out hv1.out).mono ?_); rintro e w49 ⟨rfl, hb⟩; have n1_ := Aside0.mk (below_step HQ.out hb); clear HQ; have HQ := n1_; clear n1_ hb; have hcl72 : w49.cell? ⟨g9, 0, none⟩ = some (.int .i64 6) := (blk_cell (blk_below BK12.out HQ.out) 0).trans rfl; have hcl73 : w49.cell? ⟨g9, 1, none⟩ = some (.int .i64 0) := (blk_cell (blk_below BK12.out HQ.out) 1).trans rfl; have hcl74 : w49.cell? ⟨g9, 2, none⟩ = some (.float .f64 0) := (blk_cell (blk_below BK12.out HQ.out) 2).trans rfl; have hcl75 : w49.cell? ⟨g9, 3, none⟩ = some (.string (⟨#[]⟩ : ByteArray)) := (blk_cell (blk_below BK12.out HQ.out) 3).trans rfl; have hcl76 : w49.cell? ⟨g9, 4, none⟩ = some (.slice A5 Y.length c5) := (blk_cell (blk_below BK12.out HQ.out) 4).trans rfl) | (go_at_call 5; (with_reducible refine (cobwebref03_Valid.calls k 6 0 0 (⟨#[]⟩ : ByteArray) A5 c5 Y true _ (Kd.C_below HX5.out HQ.out) HS5.out hv2.out).mono ?_); rintro e w50 ⟨rfl, hb⟩; have n1_ := Aside0.mk (below_step HQ.out hb); clear HQ; have HQ := n1_; clear n1_ hb; have hcl77 : w50.cell? ⟨g10, 0, none⟩ = some (.int .i64 6) := (blk_cell (blk_below BK13.out HQ.out) 0).trans rfl; have hcl78 : w50.cell? ⟨g10, 1, none⟩ = some (.int .i64 0) := (blk_cell (blk_below BK13.out HQ.out) 1).trans rfl; have hcl79 : w50.cell? ⟨g10, 2, none⟩ = some (.float .f64 0) := (blk_cell (blk_below BK13.out HQ.out) 2).trans rfl; have hcl80 : w50.cell? ⟨g10, 3, none⟩ = some (.string (⟨#[]⟩ : ByteArray)) := (blk_cell (blk_below BK13.out HQ.out) 3).trans rfl; have hcl81 : w50.cell? ⟨g10, 4, none⟩ = some (.slice A10 Z.length c10) := (blk_cell (blk_below BK13.out HQ.out) 4).trans rfl) | (go_at_call 5; (with_reducible refine (cobwebref03_Valid.calls k 6 0 0 (⟨#[]⟩ : ByteArray) A10 c10 Z true _ (Kd.C_below HX10.out HQ.out) HS10.out hv3.out).mono ?_); rintro e w51 ⟨rfl, hb⟩; have n1_ := Aside0.mk (below_step HQ.out hb); clear HQ; have HQ := n1_; clear n1_ hb; have hcl82 : w51.cell? ⟨gb, 0, none⟩ = some (.int .i64 p0) := (blk_cell (blk_below BB.out HQ.out) 0).trans rfl; have hcl83 : w51.cell? ⟨gb, 1, none⟩ = some (.int .i64 p1) := (blk_cell (blk_below BB.out HQ.out) 1).trans rfl; have hcl84 : w51.cell? ⟨gb, 2, none⟩ = some (.float .f64 p2) := (blk_cell (blk_below BB.out HQ.out) 2).trans rfl; have hcl85 : w51.cell? ⟨gb, 3, none⟩ = some (.string p3) := (blk_cell (blk_below BB.out HQ.out) 3).trans rfl; have hcl86 : w51.cell? ⟨gc, 0, none⟩ = some (.int .i64 q0) := (blk_cell (blk_below BC.out HQ.out) 0).trans rfl; have hcl87 : w51.cell? ⟨gc, 1, none⟩ = some (.int .i64 q1) := (blk_cell (blk_below BC.out HQ.out) 1).trans rfl; have hcl88 : w51.cell? ⟨gc, 2, none⟩ = some (.float .f64 q2) := (blk_cell (blk_below BC.out HQ.out) 2).trans rfl; have hcl89 : w51.cell? ⟨gc, 3, none⟩ = some (.string q3) := (blk_cell (blk_below BC.out HQ.out) 3).trans rfl) | (go_at_call 6; (with_reducible refine (value_Compare.calls k 6 0 0 (⟨#[]⟩ : ByteArray) A1 c1 X 6 0 0 (⟨#[]⟩ : ByteArray) A5 c5 Y (-1) _ (Kd.C_below HX1.out HQ.out) HS1.out (Kd.C_below HX5.out HQ.out) HS5.out hk2.out).mono ?_); rintro e w52 ⟨rfl, hb⟩; have n1_ := Aside0.mk (below_step HQ.out hb); clear HQ; have HQ := n1_; clear n1_ hb; have hcl90 : w52.cell? ⟨g8, 0, none⟩ = some (.int .i64 6) := (blk_cell (blk_below BK11.out HQ.out) 0).trans rfl; have hcl91 : w52.cell? ⟨g8, 1, none⟩ = some (.int .i64 0) := (blk_cell (blk_below BK11.out HQ.out) 1).trans rfl; have hcl92 : w52.cell? ⟨g8, 2, none⟩ = some (.float .f64 0) := (blk_cell (blk_below BK11.out HQ.out) 2).trans rfl; have hcl93 : w52.cell? ⟨g8, 3, none⟩ = some (.string (⟨#[]⟩ : ByteArray)) := (blk_cell (blk_below BK11.out HQ.out) 3).trans rfl; have hcl94 : w52.cell? ⟨g8, 4, none⟩ = some (.slice A1 X.length c1) := (blk_cell (blk_below BK11.out HQ.out) 4).trans rfl) | (go_at_call 6; (with_reducible refine (value_Compare.calls k 6 0 0 (⟨#[]⟩ : ByteArray) A1 c1 X 6 0 0 (⟨#[]⟩ : ByteArray) A1 c1 X 0 _ (Kd.C_below HX1.out HQ.out) HS1.out (Kd.C_below HX1.out HQ.out) HS1.out hk3.out).mono ?_); rintro e w53 ⟨rfl, hb⟩; have n1_ := Aside0.mk (below_step HQ.out hb); clear HQ; have HQ := n1_; clear n1_ hb; have hcl95 : w53.cell? ⟨g9, 0, none⟩ = some (.int .i64 6) := (blk_cell (blk_below BK12.out HQ.out) 0).trans rfl; have hcl96 : w53.cell? ⟨g9, 1, none⟩ = some (.int .i64 0) := (blk_cell (blk_below BK12.out HQ.out) 1).trans rfl; have hcl97 : w53.cell? ⟨g9, 2, none⟩ = some (.float .f64 0) := (blk_cell (blk_below BK12.out HQ.out) 2).trans rfl; have hcl98 : w53.cell? ⟨g9, 3, none⟩ = some (.string (⟨#[]⟩ : ByteArray)) := (blk_cell (blk_below BK12.out HQ.out) 3).trans rfl; have hcl99 : w53.cell? ⟨g9, 4, none⟩ = some (.slice A5 Y.length c5) := (blk_cell (blk_below BK12.out HQ.out) 4).trans rfl; have hcl100 : w53.cell? ⟨g10, 0, none⟩ = some (.int .i64 6) := (blk_cell (blk_below BK13.out HQ.out) 0).trans rfl; have hcl101 : w53.cell? ⟨g10, 1, none⟩ = some (.int .i64 0) := (blk_cell (blk_below BK13.out HQ.out) 1).trans rfl; have hcl102 : w53.cell? ⟨g10, 2, none⟩ = some (.float .f64 0) := (blk_cell (blk_below BK13.out HQ.out) 2).trans rfl; have hcl103 : w53.cell? ⟨g10, 3, none⟩ = some (.string (⟨#[]⟩ : ByteArray)) := (blk_cell (blk_below BK13.out HQ.out) 3).trans rfl; have hcl104 : w53.cell? ⟨g10, 4, none⟩ = some (.slice A10 Z.length c10) := (blk_cell (blk_below BK13.out HQ.out) 4).trans rfl) | (go_at_call 6; (with_reducible refine (value_Compare.calls k 6 0 0 (⟨#[]⟩ : ByteArray) A5 c5 Y 6 0 0 (⟨#[]⟩ : ByteArray) A10 c10 Z r _ (Kd.C_below HX5.out HQ.out) HS5.out (Kd.C_below HX10.out HQ.out) HS10.out hk4.out).mono ?_); rintro e w54 ⟨rfl, hb⟩; have n1_ := Aside0.mk (below_step HQ.out hb); clear HQ; have HQ := n1_; clear n1_ hb; ) | (go_at_call 6; (refine (value_Compare.calls k p0 p1 p2 p3 none 0 [] q0 q1 q2 q3 none 0 [] r _ (Kd.C_nil _ _) (Nat.le_refl _) (Kd.C_nil _ _) (Nat.le_refl _) hk1.out).mono ?_); rintro e w55 ⟨rfl, hb⟩; have n1_ := Aside0.mk (below_step HQ.out hb); clear HQ; have HQ := n1_; clear n1_ hb; have hcl105 : w55.cell? ⟨g8, 0, none⟩ = some (.int .i64 6) := (blk_cell (blk_below BK11.out HQ.out) 0).trans rfl; have hcl106 : w55.cell? ⟨g8, 1, none⟩ = some (.int .i64 0) := (blk_cell (blk_below BK11.out HQ.out) 1).trans rfl; have hcl107 : w55.cell? ⟨g8, 2, none⟩ = some (.float .f64 0) := (blk_cell (blk_below BK11.out HQ.out) 2).trans rfl; have hcl108 : w55.cell? ⟨g8, 3, none⟩ = some (.string (⟨#[]⟩ : ByteArray)) := (blk_cell (blk_below BK11.out HQ.out) 3).trans rfl; have hcl109 : w55.cell? ⟨g8, 4, none⟩ = some (.slice A1 X.length c1) := (blk_cell (blk_below BK11.out HQ.out) 4).trans rfl; have hcl110 : w55.cell? ⟨g9, 0, none⟩ = some (.int .i64 6) := (blk_cell (blk_below BK12.out HQ.out) 0).trans rfl; have hcl111 : w55.cell? ⟨g9, 1, none⟩ = some (.int .i64 0) := (blk_cell (blk_below BK12.out HQ.out) 1).trans rfl; have hcl112 : w55.cell? ⟨g9, 2, none⟩ = some (.float .f64 0) := (blk_cell (blk_below BK12.out HQ.out) 2).trans rfl; have hcl113 : w55.cell? ⟨g9, 3, none⟩ = some (.string (⟨#[]⟩ : ByteArray)) := (blk_cell (blk_below BK12.out HQ.out) 3).trans rfl; have hcl114 : w55.cell? ⟨g9, 4, none⟩ = some (.slice A5 Y.length c5) := (blk_cell (blk_below BK12.out HQ.out) 4).trans rfl))
                    go_ret
                    exact ⟨rfl, by (with_reducible repeat (first | apply below_alloc | apply pw_below_drewN | apply below_drew1)); exact below_step HB.out HQ.out⟩
end Go.Proofs.Ytonhjpimadibaaa.P
