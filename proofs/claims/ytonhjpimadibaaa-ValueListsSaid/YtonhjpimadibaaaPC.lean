-- ValueLists: the plain law of lists.
import Derived.Test.YtonhjpimadibaaaPB
namespace Go.Proofs.Ytonhjpimadibaaa.P
open Go.RowKit Go.Proofs.YtonhjpimadibaaaW.PrintWords Go.Proofs.YtonhjpimadibaaaW.PrintLast Go.Proofs.Ytonhjpimadibaaa.F64

abbrev e0 : ByteArray := ⟨#[]⟩
theorem e0_nil : e0.toList.isEmpty = true := by first | rfl | kernel_rfl | simp
theorem rd_nat (X : List S25) (i : Nat) : rd_T25 X (i : Int) = X.getD i z25 := rfl
theorem ref_l0 (X : List S25) (hX : ∀ j, j < X.length → AW (X.getD j z25)) (hl : X.length ≤ 1000) (a0 a1 : Int) (a2 : Nat) (a3 : ByteArray) :
    ∀ d i, i + d = X.length → ∀ k, ∃ r, cobwebref03_Valid.l0 (k + 2 + d) (i : Int) a0 a1 a2 a3 X = some r ∧ (r = true → ∀ j, i ≤ j → j < X.length → Vd (X.getD j z25))
  | 0, i, hi, k => by
    rw [cobwebref03_Valid.l0, if_neg (by omega)]
    exact ⟨true, rfl, fun _ j _ _ => by omega⟩
  | d + 1, i, hi, k => by
    rw [show k + 2 + (d + 1) = (k + 2 + d) + 1 from rfl, cobwebref03_Valid.l0, if_pos (by omega), if_pos (by omega), rd_nat]
    obtain ⟨r, h1, h2⟩ := atom_ref (k + 1 + d) (X.getD i z25).f0 (X.getD i z25).f1 (X.getD i z25).f2 (X.getD i z25).f3 (hX i (by omega))
    rw [show k + 2 + d = (k + 1 + d) + 1 by omega, h1, Option.bind_some]
    by_cases hr : r = true
    · rw [if_pos hr, w64 (by omega), show ((i : Int) + 1) = ((i + 1 : Nat) : Int) by omega, show (k + 1 + d) + 1 = k + 2 + d by omega]
      obtain ⟨r', h3, h4⟩ := ref_l0 X hX hl a0 a1 a2 a3 d (i + 1) (by omega) k
      refine ⟨r', h3, fun hr' j hj hj' => ?_⟩
      by_cases he : j = i
      · subst he; exact h2 hr
      · exact h4 hr' j (by omega) hj'
    · rw [if_neg hr]
      exact ⟨false, rfl, fun h => by cases h⟩
theorem ref_list (X : List S25) (hX : ∀ j, j < X.length → AW (X.getD j z25)) (hl : X.length ≤ 1000) (k : Nat) (hk : X.length + 3 ≤ k) :
    ∃ r, cobwebref03_Valid.f k 6 0 0 e0 X = some r ∧ (r = true → X.length ≤ 16 ∧ ∀ j, j < X.length → Vd (X.getD j z25)) := by
  obtain ⟨k', rfl⟩ : ∃ k', k = (k' + 2 + X.length) + 1 := ⟨k - 3 - X.length, by omega⟩
  unfold cobwebref03_Valid.f cobwebref03_bits.f
  rw [if_pos rfl, if_pos rfl, Option.bind_some, if_pos (show ((0 : Nat) : Int) = 0 from rfl), if_pos e0_nil, cobwebref03_Valid.j0]
  by_cases h : (X.length : Int) > 16
  · rw [if_pos (decide_eq_true h)]
    exact ⟨false, rfl, fun h => by cases h⟩
  · rw [if_neg (by simp only [decide_eq_true_iff]; exact h)]
    obtain ⟨r, h1, h2⟩ := ref_l0 X hX hl 6 0 0 e0 X.length 0 (by omega) k'
    exact ⟨r, h1, fun hr => ⟨by omega, fun j hj => h2 hr j (by omega) hj⟩⟩
theorem val_l0 (X : List S25) (hX : ∀ j, j < X.length → Vd (X.getD j z25)) (hl : X.length ≤ 1000) (a0 a1 : Int) (a2 : Nat) (a3 : ByteArray) :
    ∀ d i, i + d = X.length → ∀ k, value_Valid.l0 (k + 1 + d) true (i : Int) a0 a1 a2 a3 X = some true
  | 0, i, hi, k => by
    rw [value_Valid.l0, if_pos rfl, if_neg (by omega)]
  | d + 1, i, hi, k => by
    rw [show k + 1 + (d + 1) = (k + 1 + d) + 1 from rfl, value_Valid.l0, if_pos rfl, if_pos (by omega), if_pos (by omega), rd_nat, hX i (by omega), Option.bind_some, w64 (by omega), show ((i : Int) + 1) = ((i + 1 : Nat) : Int) by omega]
    exact val_l0 X hX hl a0 a1 a2 a3 d (i + 1) (by omega) k
theorem val_list (X : List S25) (hl : X.length ≤ 16) (hX : ∀ j, j < X.length → Vd (X.getD j z25)) (k : Nat) (hk : 20 ≤ k) : value_Valid.f k 6 0 0 e0 X = some true := by
  obtain ⟨k', rfl⟩ : ∃ k', k = (k' + 1 + X.length) + 1 := ⟨k - 2 - X.length, by omega⟩
  unfold value_Valid.f
  have hi : value_item_is.f 6 0 0 e0 false false false = some true := by
    unfold value_item_is.f value_item_bits.f
    simp [e0_nil]
  rw [if_pos rfl, hi, Option.bind_some, if_pos rfl, value_Valid.j0, show decide ((X.length : Int) ≤ 16) = true from decide_eq_true (by omega)]
  exact val_l0 X hX (by omega) 6 0 0 e0 X.length 0 (by omega) k'
theorem Vd_6 {x : S25} (h : Vd x) : x.f0 ≠ 6 := by
  intro e
  unfold Vd value_item_valid.f at h
  rw [e] at h
  simp at h
theorem val_one {x : S25} (h : Vd x) (k : Nat) : value_Valid.f k x.f0 x.f1 x.f2 x.f3 [] = some true := by
  unfold value_Valid.f
  rw [if_neg (Vd_6 h), h]
  rfl
theorem cmp_run (n : Nat) (m : Int) (X Y : List S25) (hX : n ≤ X.length) (hY : n ≤ Y.length) (hm : (n : Int) ≤ m) (hn : n ≤ 1000) (he : ∀ j, j < n → X.getD j z25 = Y.getD j z25) (a0 a1 : Int) (a2 : Nat) (a3 : ByteArray) (b0 b1 : Int) (b2 : Nat) (b3 : ByteArray) :
    ∀ d i, i + d = n → ∀ k, value_Compare.l0 (k + 4 + d) m (i : Int) a0 a1 a2 a3 X b0 b1 b2 b3 Y = value_Compare.l0 (k + 4) m (n : Int) a0 a1 a2 a3 X b0 b1 b2 b3 Y
  | 0, i, hi, k => by
    obtain rfl : i = n := by omega
    rfl
  | d + 1, i, hi, k => by
    rw [show k + 4 + (d + 1) = (k + 1 + d + 3) + 1 by omega, value_Compare.l0, if_pos (by omega), if_pos (by omega), if_pos (by omega), if_pos (by omega), rd_nat, rd_nat, he i (by omega), atoms_self, Option.bind_some, if_pos rfl, w64 (by omega), show ((i : Int) + 1) = ((i + 1 : Nat) : Int) by omega, show k + 1 + d + 3 = k + 4 + d by omega]
    exact cmp_run n m X Y hX hY hm hn he a0 a1 a2 a3 b0 b1 b2 b3 d (i + 1) (by omega) k
theorem cmp_end (k : Nat) (m : Int) (X Y : List S25) (n : Nat) (h : m ≤ (n : Int)) (a0 a1 : Int) (a2 : Nat) (a3 : ByteArray) (b0 b1 : Int) (b2 : Nat) (b3 : ByteArray) :
    value_Compare.l0 (k + 1) m (n : Int) a0 a1 a2 a3 X b0 b1 b2 b3 Y = some (if (X.length : Int) < Y.length then -1 else if (Y.length : Int) < X.length then 1 else 0) := by
  rw [value_Compare.l0, if_neg (by omega), cmpi, Option.bind_some]
theorem cmp_open (k : Nat) (X Y : List S25) (hX : value_Valid.f (k + 5) 6 0 0 e0 X = some true) (hY : value_Valid.f (k + 5) 6 0 0 e0 Y = some true) :
    value_Compare.f (k + 5) 6 0 0 e0 X 6 0 0 e0 Y = value_Compare.l0 (k + 4) (mn (X.length : Int) (Y.length : Int)) 0 6 0 0 e0 X 6 0 0 e0 Y := by
  unfold value_Compare.f
  rw [hX, Option.bind_some, if_pos rfl, hY, Option.bind_some, show k + 5 = (k + 4) + 1 from rfl, value_Compare.j0, if_neg (by decide)]
  have := atoms_self (k + 1) ⟨6, 0, 0, e0⟩
  simp only at this
  rw [show k + 4 = k + 1 + 3 from rfl, this, Option.bind_some, if_pos rfl]
theorem mn_eq (a b : Nat) : mn (a : Int) (b : Int) = ((min a b : Nat) : Int) := by
  unfold mn
  split <;> omega
theorem getD_app {L R : List S25} {j : Nat} (h : j < L.length) : (L ++ R).getD j z25 = L.getD j z25 := by
  simp [List.getD_eq_getElem?_getD, List.getElem?_append_left h]

theorem law_pure (l : List S25) (b c : S25) (hl : ∀ x ∈ l, AW x) (hb : AW b) (hc : AW c) : ∃ k v1 v2 v3, cobwebref03_Valid.f k 6 0 0 e0 (l.take 14 ++ []) = some v1 ∧ cobwebref03_Valid.f k 6 0 0 e0 (l.take 14 ++ [b]) = some v2 ∧ cobwebref03_Valid.f k 6 0 0 e0 (l.take 14 ++ [c, b]) = some v3
    ∧ value_Compare.f k 2 1 0 e0 [] 2 2 0 e0 [] = some (-1)
    ∧ (v1 = true → v2 = true → v3 = true → ∃ r, value_Compare.f k b.f0 b.f1 b.f2 b.f3 [] c.f0 c.f1 c.f2 c.f3 [] = some r ∧ value_Compare.f k 6 0 0 e0 (l.take 14 ++ []) 6 0 0 e0 (l.take 14 ++ [b]) = some (-1) ∧ value_Compare.f k 6 0 0 e0 (l.take 14 ++ []) 6 0 0 e0 (l.take 14 ++ []) = some 0 ∧ value_Compare.f k 6 0 0 e0 (l.take 14 ++ [b]) 6 0 0 e0 (l.take 14 ++ [c, b]) = some (if r = 0 then -1 else r)) := by
  have hL : ∀ x ∈ l.take 14, AW x := fun x hx => hl x (List.mem_of_mem_take hx)
  have hn : (l.take 14).length ≤ 14 := by rw [List.length_take]; omega
  generalize l.take 14 = L at hL hn ⊢
  have aw : ∀ X : List S25, (∀ x ∈ X, AW x) → ∀ j, j < X.length → AW (X.getD j z25) := fun X hX j hj => by
    rw [List.getD_eq_getElem?_getD, List.getElem?_eq_getElem hj]
    exact hX _ (List.getElem_mem hj)
  obtain ⟨v1, h1, k1⟩ := ref_list (L ++ []) (aw _ (by simpa using hL)) (by simp; omega) 60 (by simp; omega)
  obtain ⟨v2, h2, k2⟩ := ref_list (L ++ [b]) (aw _ (by intro x hx; rcases List.mem_append.1 hx with h | h; exact hL x h; rw [List.mem_singleton.1 h]; exact hb)) (by simp; omega) 60 (by simp; omega)
  obtain ⟨v3, h3, k3⟩ := ref_list (L ++ [c, b]) (aw _ (by intro x hx; rcases List.mem_append.1 hx with h | h; exact hL x h; rcases List.mem_cons.1 h with h | h; rw [h]; exact hc; rw [List.mem_singleton.1 h]; exact hb)) (by simp; omega) 60 (by simp; omega)
  refine ⟨60, v1, v2, v3, h1, h2, h3, ?_, ?_⟩
  · have hv : ∀ n : Int, Vd ⟨2, n, 0, e0⟩ := fun n => by
      unfold Vd value_item_valid.f value_item_is.f value_item_bits.f
      simp [e0_nil]
    unfold value_Compare.f
    have q1 := val_one (hv 1) 60
    have q2 := val_one (hv 2) 60
    simp only at q1 q2
    rw [q1, Option.bind_some, if_pos rfl, q2, Option.bind_some, value_Compare.j0, if_neg (by decide)]
    unfold value_atoms.f value_item_rank.f value_item_number.f value_exactly.f value_exactly.j0
    simp [cmpi, Or_eq]
  · intro e1 e2 e3
    obtain ⟨m1, x1⟩ := k1 e1
    obtain ⟨m2, x2⟩ := k2 e2
    obtain ⟨m3, x3⟩ := k3 e3
    have z1 := val_list _ m1 x1 60 (by omega)
    have z2 := val_list _ m2 x2 60 (by omega)
    have z3 := val_list _ m3 x3 60 (by omega)
    have vb : Vd b := by
      have := x2 L.length (by simp)
      rw [List.getD_eq_getElem?_getD] at this
      simpa using this
    have vc : Vd c := by
      have := x3 L.length (by simp)
      rw [List.getD_eq_getElem?_getD] at this
      simpa using this
    obtain ⟨t, ht⟩ := atoms_total 56 b c
    have cmpbc : value_Compare.f 60 b.f0 b.f1 b.f2 b.f3 [] c.f0 c.f1 c.f2 c.f3 [] = some t := by
      unfold value_Compare.f
      rw [val_one vb, Option.bind_some, if_pos rfl, val_one vc, Option.bind_some, value_Compare.j0, if_neg (by decide), ht, Option.bind_some]
      by_cases hz : t = 0
      · rw [if_pos hz, hz]
        exact cmp_end 58 _ [] [] 0 (by decide) _ _ _ _ _ _ _ _
      · rw [if_neg hz]
    refine ⟨t, cmpbc, ?_, ?_, ?_⟩
    · rw [show (60 : Nat) = 55 + 5 from rfl, cmp_open _ _ _ z1 z2, mn_eq]
      have hr := cmp_run L.length ((min (L ++ []).length (L ++ [b]).length : Nat) : Int) (L ++ []) (L ++ [b]) (by simp) (by simp) (by simp) (by omega) (fun j hj => by rw [getD_app hj, getD_app hj]) 6 0 0 e0 6 0 0 e0 L.length 0 (by omega) (55 - L.length)
      rw [show 55 - L.length + 4 + L.length = 55 + 4 by omega] at hr
      refine hr.trans ?_
      rw [show 55 - L.length + 4 = (55 - L.length + 3) + 1 from rfl, cmp_end _ _ _ _ _ (by simp), if_pos (by simp; omega)]
    · rw [show (60 : Nat) = 55 + 5 from rfl, cmp_open _ _ _ z1 z1, mn_eq]
      have hr := cmp_run L.length ((min (L ++ []).length (L ++ []).length : Nat) : Int) (L ++ []) (L ++ []) (by simp) (by simp) (by simp) (by omega) (fun j hj => rfl) 6 0 0 e0 6 0 0 e0 L.length 0 (by omega) (55 - L.length)
      rw [show 55 - L.length + 4 + L.length = 55 + 4 by omega] at hr
      refine hr.trans ?_
      rw [show 55 - L.length + 4 = (55 - L.length + 3) + 1 from rfl, cmp_end _ _ _ _ _ (by simp), if_neg (by omega), if_neg (by omega)]
    · rw [show (60 : Nat) = 55 + 5 from rfl, cmp_open _ _ _ z2 z3, mn_eq]
      have hr := cmp_run L.length ((min (L ++ [b]).length (L ++ [c, b]).length : Nat) : Int) (L ++ [b]) (L ++ [c, b]) (by simp) (by simp) (by simp; omega) (by omega) (fun j hj => by rw [getD_app hj, getD_app hj]) 6 0 0 e0 6 0 0 e0 L.length 0 (by omega) (55 - L.length)
      rw [show 55 - L.length + 4 + L.length = 55 + 4 by omega] at hr
      refine hr.trans ?_
      have gb : (L ++ [b]).getD L.length z25 = b := by rw [List.getD_eq_getElem?_getD]; simp
      have gc : (L ++ [c, b]).getD L.length z25 = c := by rw [List.getD_eq_getElem?_getD]; simp
      obtain ⟨t', ht'⟩ := atoms_total (52 - L.length) b c
      have htt : t' = t := by
        have hm : ∀ d k, ∀ r, value_atoms.f k b.f0 b.f1 b.f2 b.f3 c.f0 c.f1 c.f2 c.f3 = some r → value_atoms.f (k + d) b.f0 b.f1 b.f2 b.f3 c.f0 c.f1 c.f2 c.f3 = some r := by
          intro d
          induction d with
          | zero => intro k r h; exact h
          | succ d ih => intro k r h; exact value_atoms.mono _ _ _ _ _ _ _ _ (k + d) r (ih k r h)
        have := hm (4 + L.length) _ _ ht'
        rw [show 52 - L.length + 3 + (4 + L.length) = 56 + 3 by omega, ht] at this
        exact (Option.some.inj this).symm
      rw [show 55 - L.length + 4 = (52 - L.length + 3 + 3) + 1 by omega, value_Compare.l0, if_pos (by simp; omega), if_pos (by omega), if_pos (by simp; omega), if_pos (by simp; omega), rd_nat, rd_nat, gb, gc, show 52 - L.length + 3 + 3 = (52 - L.length + 3) + 3 from rfl]
      have ht2 : value_atoms.f (52 - L.length + 3 + 3) b.f0 b.f1 b.f2 b.f3 c.f0 c.f1 c.f2 c.f3 = some t := by
        have hm : ∀ d k, ∀ r, value_atoms.f k b.f0 b.f1 b.f2 b.f3 c.f0 c.f1 c.f2 c.f3 = some r → value_atoms.f (k + d) b.f0 b.f1 b.f2 b.f3 c.f0 c.f1 c.f2 c.f3 = some r := by
          intro d
          induction d with
          | zero => intro k r h; exact h
          | succ d ih => intro k r h; exact value_atoms.mono _ _ _ _ _ _ _ _ (k + d) r (ih k r h)
        rw [← htt]
        exact hm 3 _ _ ht'
      rw [ht2, Option.bind_some]
      by_cases hz : t = 0
      · rw [if_pos hz, if_pos hz, w64 (by omega), show ((L.length : Int) + 1) = ((L.length + 1 : Nat) : Int) by omega, show 52 - L.length + 3 + 3 = (52 - L.length + 5) + 1 from rfl, cmp_end _ _ _ _ _ (by simp), if_pos (by simp)]
      · rw [if_neg hz, if_neg hz]
end Go.Proofs.Ytonhjpimadibaaa.P
