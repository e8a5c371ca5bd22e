/- Values: how heavy they are; their text, as the program tells it. -/
import Derived.Test.YtccdnmjijakofaaGreatDoorVk2
import Derived.Test.YtccdnmjijakofaaGreatDoorNt2
namespace Go.Proofs.YtccdnmjijakofaaGreatDoor
open Go Go.RowKit
set_option maxRecDepth 100000
set_option maxHeartbeats 1000000
set_option linter.unusedVariables false
set_option linter.unusedSimpArgs false

theorem kNum (n : Int) (h : I64 n) : Con Tryz.prog 54 [.c (.lit (.int .i64 n))] [] (.c (.lit (str (mNum n)))) [] := by
  refine con_below (by simp [Flat]) trivial (by simp) fun S w args B hsz harg hS htt hB => ?_
  rw [args_one hsz (lit_val (ρ := fun _ => 0) (harg 0 _ rfl))]
  refine (wordNum_any n h.1 (by have := h.2; omega) w htt.tab).mono ?_
  rintro e w' ⟨rfl, hbl⟩
  exact ⟨_, rfl, hbl, fun _ _ _ => .lit _ rfl⟩
theorem kQuote (s : List UInt8) (h : s.length ≤ 200) : Con Tryz.prog 55 [.c (.lit (str s))] [] (.tup [.c (.lit (str (mLong s))), .c (.lit (.int .i64 0))]) [] := by
  have h1 : quoV s = mLong s := by simp [quoV, mQuote, h]
  have h2 : quoE s = 0 := by simp [quoE, mQuote, h]
  refine con_below (by simp [Flat]) trivial (by simp) fun S w args B hsz harg hS htt hB => ?_
  rw [args_one hsz (lit_val (ρ := fun _ => 0) (harg 0 _ rfl))]
  refine (wordQuote_any s w (by omega)).mono ?_
  rintro e w' ⟨rfl, hbl⟩
  rw [h1, h2]
  exact ⟨_, rfl, hbl, fun _ _ _ => ⟨[str (mLong s), .int .i64 0], rfl, .lit _ rfl, .lit _ rfl, trivial⟩⟩
theorem kCoWt : ∀ (m : Nat) (c : Co) (n : Nat), c.size ≤ m → n ≤ 100000 → Con Tryz.prog 60 [.agg (coX c), .c (.lit (.int .i64 (n : Int)))] [] (.c (.lit (.int .i64 (coWt m c n : Int)))) []
  | 0, c, _, h, _ => absurd c.size_pos (by omega)
  | m + 1, c, n, h, hn => by
    have hl := cosD_len c.kids
    refine con_intro rfl rfl (by kernel_rfl) (by kernel_rfl) ?_
    refine js ?_
    refine u rfl rfl (r_boxA (x := 2002) rfl rfl rfl rfl) ?_
    refine u rfl rfl asg ?_
    refine jd ?_
    refine w4 1 2 4 2002 ?_
    refine js ?_
    refine u rfl rfl mv ?_
    refine u rfl rfl (r_addI rfl rfl rfl rfl (by omega)) ?_
    refine u rfl rfl asg ?_
    refine jd ?_
    refine w4 1 2 4 2002 ?_
    refine J_seq ?_
    refine js ?_
    refine u rfl rfl asg ?_
    refine jd ?_
    refine w5 1 2 4 5 2002 ?_
    refine J_block ?_
    refine J_loopF (α := { p : Nat × Nat // p.1 ≤ c.kids.length ∧ coWts (coWt m) c.kids (n + 1) = coWts (coWt m) (c.kids.drop p.1) p.2 ∧ p.1 ≤ p.2 ∧ p.2 ≤ 100001 }) (fun p => [(1, .c (.lit (.int .i64 (p.1.2 : Int)))), (5, .c (.lit (.int .i64 (p.1.1 : Int))))]) [(2, _), (4, _), (2002, _)] (fun p => c.kids.length - p.1.1) ⟨(0, n + 1), Nat.zero_le _, rfl, Nat.zero_le _, by simp only; omega⟩ ⟨rfl, rfl, rfl, rfl, rfl, trivial⟩ ?_
    rintro ⟨⟨i, n'⟩, hi, hI, hin, hn'⟩
    dsimp only at hi hI hin hn' ⊢
    refine J_seq ?_
    refine js ?_
    refine u rfl rfl mv ?_
    refine u rfl rfl (fA 4 1) ?_
    refine u rfl rfl ld ?_
    refine u rfl rfl ln0 ?_
    refine JR.runB rfl rfl (r_ltI rfl rfl rfl rfl) ?_ ?_
    · intro h12
      replace h12 := of_decide_eq_true h12
      obtain ⟨x, hx⟩ := get_some (l := c.kids) (i := i) (by omega)
      have hxs := Co.kid_lt hx
      refine u rfl rfl mv ?_
      refine u rfl rfl mv ?_
      refine JR.runB rfl rfl (r_leI rfl rfl rfl rfl) ?_ ?_
      · intro h15
        replace h15 := of_decide_eq_true h15
        refine u rfl rfl pT ?_
        refine jd ?_
        refine w14 1 2 4 5 8 9 10 11 12 13 14 15 16 2002 ?_
        refine J_condT rfl ?_
        refine J_skip ?_
        refine J_seq ?_
        refine J_block ?_
        refine JR.start ?_
        refine u rfl rfl (fA 4 1) ?_
        refine u rfl rfl ld ?_
        refine u rfl rfl mv ?_
        refine u rfl rfl (r_indexAddr (e := 27) (sz := 5) rfl rfl (by kernel_rfl) rfl rfl (by omega) (cosD_at hx)) ?_
        refine u rfl rfl (eA 5) ?_
        refine u rfl rfl mv ?_
        refine u rfl rfl (cl (kCoWt m x n' (by omega) (by omega))) ?_
        refine u rfl rfl asg ?_
        refine jd ?_
        refine J_weak [(1, _), (2, _), (4, _), (5, _), (8, _), (9, _), (10, _), (11, _), (12, _), (13, _), (14, _), (15, _), (16, _), (19, _), (20, _), (21, _), (22, _), (23, _), (24, _), (25, _), (2002, _)] ⟨rfl, rfl, rfl, rfl, rfl, rfl, rfl, rfl, rfl, rfl, rfl, rfl, rfl, rfl, rfl, rfl, rfl, rfl, rfl, rfl, rfl, trivial⟩ ?_
        refine JR.start ?_
        refine u rfl rfl mv ?_
        refine u rfl rfl (r_addI rfl rfl rfl rfl (by omega)) ?_
        refine u rfl rfl asg ?_
        refine jd ?_
        have hle := coWt_bound m x n' (by omega)
        refine ⟨⟨(i + 1, coWt m x n'), by simp only; omega, by rw [hI, drop_get hx, coWts, if_pos (by omega)], by simp only; omega, by simp only; omega⟩, by simp only; omega, rfl, rfl, rfl, rfl, rfl, trivial⟩
      · intro h15
        replace h15 := of_decide_eq_false h15
        refine u rfl rfl pT ?_
        refine jd ?_
        refine w14 1 2 4 5 8 9 10 11 12 13 14 15 16 2002 ?_
        refine J_condF rfl ?_
        refine J_exit ?_
        refine js ?_
        refine u rfl rfl mv ?_
        refine u rfl rfl asg ?_
        refine jd ?_
        refine w1 4 ?_
        refine J_ret ?_
        refine ⟨.inl rfl, _, rfl, .ofI ?_, trivial⟩
        rw [coWt, hI, drop_get hx, coWts, if_neg (by omega)]
    · intro h12
      replace h12 := of_decide_eq_false h12
      refine u rfl rfl mv ?_
      refine sk ?_
      refine sk ?_
      refine u rfl rfl pF ?_
      refine jd ?_
      refine w12 1 2 4 5 8 9 10 11 12 13 16 2002 ?_
      refine J_condF rfl ?_
      refine J_exit ?_
      refine js ?_
      refine u rfl rfl mv ?_
      refine u rfl rfl asg ?_
      refine jd ?_
      refine w1 4 ?_
      refine J_ret ?_
      refine ⟨.inl rfl, _, rfl, .ofI ?_, trivial⟩
      rw [coWt, hI, List.drop_eq_nil_of_le (by omega), coWts]

theorem kCoHeavy (l : List Co) (hl0 : l.length ≤ 10) : Con Tryz.prog 42 [.c (.sl 5 (cosD l))] [] (.c (.lit (.bool (decide (400 < l.foldl (fun n v => coWt v.size v n) 0))))) [] := by
  have hl := cosD_len l
  refine con_intro rfl rfl (by kernel_rfl) (by kernel_rfl) ?_
  refine js ?_
  refine u rfl rfl asg ?_
  refine jd ?_
  refine w2 0 2 ?_
  refine js ?_
  refine u rfl rfl asg ?_
  refine jd ?_
  refine w3 0 2 3 ?_
  refine J_seq ?_
  refine js ?_
  refine u rfl rfl asg ?_
  refine jd ?_
  refine w4 0 2 3 4 ?_
  refine J_block ?_
  refine J_loopF (α := { p : Nat × Nat // p.1 ≤ l.length ∧ l.foldl (fun n v => coWt v.size v n) 0 = (l.drop p.1).foldl (fun n v => coWt v.size v n) p.2 ∧ p.2 ≤ 401 + p.1 }) (fun p => [(3, .c (.lit (.int .i64 (p.1.2 : Int)))), (4, .c (.lit (.int .i64 (p.1.1 : Int))))]) [(0, _), (2, _)] (fun p => l.length - p.1.1) ⟨(0, 0), Nat.zero_le _, rfl, Nat.zero_le _⟩ ⟨rfl, rfl, rfl, rfl, trivial⟩ ?_
  rintro ⟨⟨i, n'⟩, hi, hI, hin⟩
  dsimp only at hi hI hin ⊢
  refine J_seq ?_
  refine js ?_
  refine u rfl rfl mv ?_
  refine u rfl rfl mv ?_
  refine u rfl rfl ln0 ?_
  refine JR.runB rfl rfl (r_ltI rfl rfl rfl rfl) ?_ ?_
  · intro h8
    replace h8 := of_decide_eq_true h8
    obtain ⟨x, hx⟩ := get_some (l := l) (i := i) (by omega)
    refine jd ?_
    refine w8 0 2 3 4 5 6 7 8 ?_
    refine J_condT rfl ?_
    refine J_skip ?_
    refine J_seq ?_
    refine J_block ?_
    refine JR.start ?_
    refine u rfl rfl mv ?_
    refine u rfl rfl mv ?_
    refine u rfl rfl (r_indexAddr (e := 27) (sz := 5) rfl rfl (by kernel_rfl) rfl rfl (by omega) (cosD_at hx)) ?_
    refine u rfl rfl (eA 5) ?_
    refine u rfl rfl mv ?_
    refine u rfl rfl (cl (kCoWt x.size x n' (Nat.le_refl _) (by omega))) ?_
    refine u rfl rfl asg ?_
    refine jd ?_
    refine w14 0 2 3 4 5 6 7 8 11 12 13 14 15 16 ?_
    refine JR.start ?_
    refine u rfl rfl mv ?_
    refine u rfl rfl (r_addI rfl rfl rfl rfl (by omega)) ?_
    refine u rfl rfl asg ?_
    refine jd ?_
    have hle := coWt_bound x.size x n' (Nat.le_refl _)
    refine ⟨⟨(i + 1, coWt x.size x n'), by simp only; omega, by rw [hI, drop_get hx, List.foldl_cons], by simp only; omega⟩, by simp only; omega, rfl, rfl, rfl, rfl, trivial⟩
  · intro h8
    replace h8 := of_decide_eq_false h8
    refine jd ?_
    refine w8 0 2 3 4 5 6 7 8 ?_
    refine J_condF rfl ?_
    refine J_exit ?_
    refine js ?_
    refine u rfl rfl mv ?_
    refine JR.runB rfl rfl (r_gtI rfl rfl rfl rfl) ?_ ?_
    · intro h18
      replace h18 := of_decide_eq_true h18
      refine u rfl rfl asg ?_
      refine jd ?_
      refine w1 2 ?_
      refine J_ret ?_
      refine ⟨.inl rfl, _, rfl, .ofB ?_, trivial⟩
      rw [hI, List.drop_eq_nil_of_le (by omega), List.foldl_nil]
      first | exact decide_eq_true (by omega) | exact decide_eq_false (by omega)
    · intro h18
      replace h18 := of_decide_eq_false h18
      refine u rfl rfl asg ?_
      refine jd ?_
      refine w1 2 ?_
      refine J_ret ?_
      refine ⟨.inl rfl, _, rfl, .ofB ?_, trivial⟩
      rw [hI, List.drop_eq_nil_of_le (by omega), List.foldl_nil]
      first | exact decide_eq_true (by omega) | exact decide_eq_false (by omega)

/-- strings are as long as they may be -/
inductive Va.L : Va → Prop
  | mk (k n : Int) (s : List UInt8) (c : Co) (ks : List Va) : s.length ≤ 9223372036854775807 → (∀ x, x ∈ ks → Va.L x) → Va.L (.mk k n s c ks)
theorem Va.L.of {v : Va} (h : v.L) : v.str.length ≤ 9223372036854775807 ∧ ∀ {i : Nat} {x : Va}, v.kids[i]? = some x → x.L := by
  cases h with
  | mk k n s c ks h1 h3 => exact ⟨h1, fun hx => h3 _ (List.mem_of_getElem? hx)⟩
theorem vaWt_ge : ∀ (m : Nat) (v : Va) (n : Nat), v.size ≤ m → n + 1 ≤ vaWt m v n ∨ 401 ≤ vaWt m v n
  | 0, v, _, h => absurd v.size_pos (by omega)
  | m + 1, v, n, h => by
    have key : ∀ (l : List Va) (k : Nat), (∀ x ∈ l, x.size ≤ m) → k ≤ vaWts (vaWt m) l k ∨ 401 ≤ vaWts (vaWt m) l k := by
      intro l
      induction l with
      | nil => intro k _; rw [vaWts]; omega
      | cons x r ih =>
        intro k hx
        rw [vaWts]
        split
        · have h1 := vaWt_ge m x k (hx x (by simp))
          have h2 := ih (vaWt m x k) (fun y hy => hx y (by simp [hy]))
          omega
        · omega
    have h1 := key v.kids (n + 1) (fun x hx => by
      obtain ⟨i, hi⟩ := List.getElem?_of_mem hx
      have := Va.kid_lt hi
      omega)
    rw [vaWt]
    split
    · omega
    · split
      · omega
      · omega
theorem kVaWt : ∀ (m : Nat) (v : Va) (n : Nat), v.L → v.size ≤ m → n ≤ 410 → Con Tryz.prog 22 [.agg (vaX v), .c (.lit (.int .i64 (n : Int)))] [] (.c (.lit (.int .i64 (vaWt m v n : Int)))) []
  | 0, v, _, _, h, _ => absurd v.size_pos (by omega)
  | m + 1, v, n, hV, h, hn => by
    have hl := vasD_len v.kids
    obtain ⟨hS, kidS⟩ := hV.of
    refine con_intro rfl rfl (by kernel_rfl) (by kernel_rfl) ?_
    refine js ?_
    refine u rfl rfl (r_boxA (x := 2002) rfl rfl rfl rfl) ?_
    refine u rfl rfl asg ?_
    refine jd ?_
    refine w4 1 2 4 2002 ?_
    refine js ?_
    refine u rfl rfl mv ?_
    refine u rfl rfl (r_addI rfl rfl rfl rfl (by omega)) ?_
    refine u rfl rfl asg ?_
    refine jd ?_
    refine w4 1 2 4 2002 ?_
    refine J_seq ?_
    refine js ?_
    refine u rfl rfl (fA 2 1) ?_
    refine u rfl rfl ld ?_
    refine u rfl rfl (r_lenS rfl rfl (by kernel_rfl) rfl) ?_
    refine JR.runB rfl rfl (r_gtI rfl rfl rfl rfl) ?_ ?_
    · intro h11
      replace h11 := of_decide_eq_true h11
      refine u rfl rfl mv ?_
      refine sk ?_
      refine sk ?_
      refine sk ?_
      refine sk ?_
      refine u rfl rfl pT ?_
      refine jd ?_
      refine w5 1 2 4 17 2002 ?_
      refine J_condT rfl ?_
      refine js ?_
      refine u rfl rfl asg ?_
      refine jd ?_
      refine w4 1 2 4 2002 ?_
      refine J_ret ?_
      refine ⟨.inl rfl, _, rfl, .ofI ?_, trivial⟩
      rw [vaWt]
      first | (rw [if_pos (by omega)]; rfl) | (rw [if_neg (by omega), if_pos (show coHeavy v.coe = true from h16)]; rfl)
    · intro h11
      replace h11 := of_decide_eq_false h11
      refine u rfl rfl mv ?_
      refine u rfl rfl (fA 3 5) ?_
      refine u rfl rfl (lA 5) ?_
      refine u rfl rfl (r_buildSlice (e := 27) (sz := 5) (zs := [.int .i64 0, .int .i64 0, .int .i64 0, .bool false, .slice none 0 0]) (cosD [v.coe]) rfl rfl (by kernel_rfl) (by kernel_rfl) rfl rfl (by simp only [cosD, coD_eq]; rfl) (by simp only [cosD, coD_eq]; rfl)) ?_
      refine JR.runC rfl rfl (cl (kCoHeavy [v.coe] (by simp))) rfl ?_ ?_
      · intro h16
        refine u rfl rfl pF ?_
        refine jd ?_
        refine w5 1 2 4 17 2002 ?_
        refine J_condT rfl ?_
        refine js ?_
        refine u rfl rfl asg ?_
        refine jd ?_
        refine w4 1 2 4 2002 ?_
        refine J_ret ?_
        refine ⟨.inl rfl, _, rfl, .ofI ?_, trivial⟩
        rw [vaWt]
        first | (rw [if_pos (by omega)]; rfl) | (rw [if_neg (by omega), if_pos (show coHeavy v.coe = true from h16)]; rfl)
      · intro h16
        refine u rfl rfl pF ?_
        refine jd ?_
        refine w5 1 2 4 17 2002 ?_
        refine J_condF rfl ?_
        refine J_skip ?_
        refine J_seq ?_
        refine js ?_
        refine u rfl rfl asg ?_
        refine jd ?_
        refine w5 1 2 4 5 2002 ?_
        refine J_block ?_
        refine J_loopF (α := { p : Nat × Nat // p.1 ≤ v.kids.length ∧ vaWts (vaWt m) v.kids (n + 1) = vaWts (vaWt m) (v.kids.drop p.1) p.2 ∧ p.1 ≤ p.2 ∧ p.2 ≤ 411 }) (fun p => [(1, .c (.lit (.int .i64 (p.1.2 : Int)))), (5, .c (.lit (.int .i64 (p.1.1 : Int))))]) [(2, _), (4, _), (2002, _)] (fun p => v.kids.length - p.1.1) ⟨(0, n + 1), Nat.zero_le _, rfl, Nat.zero_le _, by simp only; omega⟩ ⟨rfl, rfl, rfl, rfl, rfl, trivial⟩ ?_
        rintro ⟨⟨i, n'⟩, hi, hI, hin, hn'⟩
        dsimp only at hi hI hin hn' ⊢
        refine J_seq ?_
        refine js ?_
        refine u rfl rfl mv ?_
        refine u rfl rfl (fA 8 1) ?_
        refine u rfl rfl ld ?_
        refine u rfl rfl ln0 ?_
        refine JR.runB rfl rfl (r_ltI rfl rfl rfl rfl) ?_ ?_
        · intro h22
          replace h22 := of_decide_eq_true h22
          obtain ⟨x, hx⟩ := get_some (l := v.kids) (i := i) (by omega)
          have hxs := Va.kid_lt hx
          refine u rfl rfl mv ?_
          refine u rfl rfl mv ?_
          refine JR.runB rfl rfl (r_leI rfl rfl rfl rfl) ?_ ?_
          · intro h25
            replace h25 := of_decide_eq_true h25
            refine u rfl rfl pT ?_
            refine jd ?_
            refine w14 1 2 4 5 18 19 20 21 22 23 24 25 26 2002 ?_
            refine J_condT rfl ?_
            refine J_skip ?_
            refine J_seq ?_
            refine J_block ?_
            refine JR.start ?_
            refine u rfl rfl (fA 8 1) ?_
            refine u rfl rfl ld ?_
            refine u rfl rfl mv ?_
            refine u rfl rfl (r_indexAddr (e := 30) (sz := 9) rfl rfl (by kernel_rfl) rfl rfl (by omega) (vasD_at hx)) ?_
            refine u rfl rfl (eA 9) ?_
            refine u rfl rfl mv ?_
            refine u rfl rfl (cl (kVaWt m x n' (kidS hx) (by omega) (by omega))) ?_
            refine u rfl rfl asg ?_
            refine jd ?_
            refine J_weak [(1, _), (2, _), (4, _), (5, _), (18, _), (19, _), (20, _), (21, _), (22, _), (23, _), (24, _), (25, _), (26, _), (29, _), (30, _), (31, _), (32, _), (33, _), (34, _), (35, _), (2002, _)] ⟨rfl, rfl, rfl, rfl, rfl, rfl, rfl, rfl, rfl, rfl, rfl, rfl, rfl, rfl, rfl, rfl, rfl, rfl, rfl, rfl, rfl, trivial⟩ ?_
            refine JR.start ?_
            refine u rfl rfl mv ?_
            refine u rfl rfl (r_addI rfl rfl rfl rfl (by omega)) ?_
            refine u rfl rfl asg ?_
            refine jd ?_
            have hle := vaWt_bound m x n' (by omega) (by omega)
            have hge := vaWt_ge m x n' (by omega)
            refine ⟨⟨(i + 1, vaWt m x n'), by simp only; omega, by rw [hI, drop_get hx, vaWts, if_pos (by omega)], by simp only; omega, by simp only; omega⟩, by simp only; omega, rfl, rfl, rfl, rfl, rfl, trivial⟩
          · intro h25
            replace h25 := of_decide_eq_false h25
            refine u rfl rfl pT ?_
            refine jd ?_
            refine w14 1 2 4 5 18 19 20 21 22 23 24 25 26 2002 ?_
            refine J_condF rfl ?_
            refine J_exit ?_
            refine js ?_
            refine u rfl rfl mv ?_
            refine u rfl rfl asg ?_
            refine jd ?_
            refine w1 4 ?_
            refine J_ret ?_
            refine ⟨.inl rfl, _, rfl, .ofI ?_, trivial⟩
            rw [vaWt, if_neg (by omega), if_neg (by rw [show coHeavy v.coe = false from h16]; simp), hI, drop_get hx, vaWts, if_neg (by omega)]
        · intro h22
          replace h22 := of_decide_eq_false h22
          refine u rfl rfl mv ?_
          refine sk ?_
          refine sk ?_
          refine u rfl rfl pF ?_
          refine jd ?_
          refine w12 1 2 4 5 18 19 20 21 22 23 26 2002 ?_
          refine J_condF rfl ?_
          refine J_exit ?_
          refine js ?_
          refine u rfl rfl mv ?_
          refine u rfl rfl asg ?_
          refine jd ?_
          refine w1 4 ?_
          refine J_ret ?_
          refine ⟨.inl rfl, _, rfl, .ofI ?_, trivial⟩
          rw [vaWt, if_neg (by omega), if_neg (by rw [show coHeavy v.coe = false from h16]; simp), hI, List.drop_eq_nil_of_le (by omega), vaWts]

theorem kVaHeavy (l : List Va) (hl0 : l.length ≤ 10) (hL : ∀ x, x ∈ l → x.L) : Con Tryz.prog 6 [.c (.sl 9 (vasD l))] [] (.c (.lit (.bool (vHeavy l)))) [] := by
  have hl := vasD_len l
  unfold vHeavy
  refine con_intro rfl rfl (by kernel_rfl) (by kernel_rfl) ?_
  refine js ?_
  refine u rfl rfl asg ?_
  refine jd ?_
  refine w2 0 2 ?_
  refine js ?_
  refine u rfl rfl asg ?_
  refine jd ?_
  refine w3 0 2 3 ?_
  refine J_seq ?_
  refine js ?_
  refine u rfl rfl asg ?_
  refine jd ?_
  refine w4 0 2 3 4 ?_
  refine J_block ?_
  refine J_loopF (α := { p : Nat × Nat // p.1 ≤ l.length ∧ l.foldl (fun n v => vaWt v.size v n) 0 = (l.drop p.1).foldl (fun n v => vaWt v.size v n) p.2 ∧ p.2 ≤ 401 + p.1 }) (fun p => [(3, .c (.lit (.int .i64 (p.1.2 : Int)))), (4, .c (.lit (.int .i64 (p.1.1 : Int))))]) [(0, _), (2, _)] (fun p => l.length - p.1.1) ⟨(0, 0), Nat.zero_le _, rfl, Nat.zero_le _⟩ ⟨rfl, rfl, rfl, rfl, trivial⟩ ?_
  rintro ⟨⟨i, n'⟩, hi, hI, hin⟩
  dsimp only at hi hI hin ⊢
  refine J_seq ?_
  refine js ?_
  refine u rfl rfl mv ?_
  refine u rfl rfl mv ?_
  refine u rfl rfl ln0 ?_
  refine JR.runB rfl rfl (r_ltI rfl rfl rfl rfl) ?_ ?_
  · intro h8
    replace h8 := of_decide_eq_true h8
    obtain ⟨x, hx⟩ := get_some (l := l) (i := i) (by omega)
    refine jd ?_
    refine w8 0 2 3 4 5 6 7 8 ?_
    refine J_condT rfl ?_
    refine J_skip ?_
    refine J_seq ?_
    refine J_block ?_
    refine JR.start ?_
    refine u rfl rfl mv ?_
    refine u rfl rfl mv ?_
    refine u rfl rfl (r_indexAddr (e := 30) (sz := 9) rfl rfl (by kernel_rfl) rfl rfl (by omega) (vasD_at hx)) ?_
    refine u rfl rfl (eA 9) ?_
    refine u rfl rfl mv ?_
    refine u rfl rfl (cl (kVaWt x.size x n' (hL x (List.mem_of_getElem? hx)) (Nat.le_refl _) (by omega))) ?_
    refine u rfl rfl asg ?_
    refine jd ?_
    refine w14 0 2 3 4 5 6 7 8 11 12 13 14 15 16 ?_
    refine JR.start ?_
    refine u rfl rfl mv ?_
    refine u rfl rfl (r_addI rfl rfl rfl rfl (by omega)) ?_
    refine u rfl rfl asg ?_
    refine jd ?_
    have hle := vaWt_bound x.size x n' (Nat.le_refl _) (by omega)
    refine ⟨⟨(i + 1, vaWt x.size x n'), by simp only; omega, by rw [hI, drop_get hx, List.foldl_cons], by simp only; omega⟩, by simp only; omega, rfl, rfl, rfl, rfl, trivial⟩
  · intro h8
    replace h8 := of_decide_eq_false h8
    refine jd ?_
    refine w8 0 2 3 4 5 6 7 8 ?_
    refine J_condF rfl ?_
    refine J_exit ?_
    refine js ?_
    refine u rfl rfl mv ?_
    refine JR.runB rfl rfl (r_gtI rfl rfl rfl rfl) ?_ ?_
    · intro h18
      replace h18 := of_decide_eq_true h18
      refine u rfl rfl asg ?_
      refine jd ?_
      refine w1 2 ?_
      refine J_ret ?_
      refine ⟨.inl rfl, _, rfl, .ofB ?_, trivial⟩
      rw [hI, List.drop_eq_nil_of_le (by omega), List.foldl_nil]
      first | exact decide_eq_true (by omega) | exact decide_eq_false (by omega)
    · intro h18
      replace h18 := of_decide_eq_false h18
      refine u rfl rfl asg ?_
      refine jd ?_
      refine w1 2 ?_
      refine J_ret ?_
      refine ⟨.inl rfl, _, rfl, .ofB ?_, trivial⟩
      rw [hI, List.drop_eq_nil_of_le (by omega), List.foldl_nil]
      first | exact decide_eq_true (by omega) | exact decide_eq_false (by omega)

theorem kTnum (n : Int) (h : I64 n) : Con Tryz.prog 36 [.c (.lit (.int .i64 n))] [] (.c (.lit (str (mNum n)))) [] := by
  refine con_intro rfl rfl (by kernel_rfl) (by kernel_rfl) ?_
  refine js ?_
  refine u rfl rfl asg ?_
  refine jd ?_
  refine w2 0 2 ?_
  refine js ?_
  refine u rfl rfl mv ?_
  refine u rfl rfl (cl (kNum n h)) ?_
  refine u rfl rfl asg ?_
  refine jd ?_
  refine w1 2 ?_
  refine J_ret ?_
  exact ⟨.inl rfl, _, rfl, .refl _, trivial⟩

def spT (a b : Int) : List UInt8 := mNum a ++ [45] ++ mNum b
theorem kSpan (a b : Int) (ha : I64 a) (hb : I64 b) : Con Tryz.prog 32 [.agg [.lit (.int .i64 a), .lit (.int .i64 b)]] [] (.c (.lit (str (spT a b)))) [] := by
  refine con_intro rfl rfl (by kernel_rfl) (by kernel_rfl) ?_
  refine js ?_
  refine u rfl rfl (r_boxA (x := 2001) rfl rfl rfl rfl) ?_
  refine u rfl rfl asg ?_
  refine jd ?_
  refine w3 1 2 2001 ?_
  refine js ?_
  refine u rfl rfl (fA 0 1) ?_
  refine u rfl rfl ld ?_
  refine u rfl rfl (cl (kTnum a ha)) ?_
  refine u rfl rfl (r_catS rfl rfl rfl rfl (by have q1 := mNum_20 a; have q2 := mNum_20 b; simp only [List.length_append, List.length_cons, List.length_nil]; omega)) ?_
  refine u rfl rfl (fA 1 1) ?_
  refine u rfl rfl ld ?_
  refine u rfl rfl (cl (kTnum b hb)) ?_
  refine u rfl rfl (r_catS rfl rfl rfl rfl (by have q1 := mNum_20 a; have q2 := mNum_20 b; simp only [List.length_append, List.length_cons, List.length_nil]; omega)) ?_
  refine u rfl rfl asg ?_
  refine jD [0, 1, 3, 7, 0, 16, 55, 127, 255] ?_
  refine w1 2 ?_
  refine J_ret ?_
  exact ⟨.inl rfl, _, rfl, .refl _, trivial⟩

def kdT (k : Int) : List UInt8 := if k = 1 then [105, 110, 116] else if k = 2 then [98, 111, 111, 108] else if k = 3 then [115, 116, 114, 105, 110, 103] else if k = 4 then [117, 110, 105, 116] else if k = 5 then [63] else if k = 6 then [118, 97, 114, 105, 97, 98, 108, 101] else if k = 7 then [112, 97, 105, 114] else if k = 8 then [108, 105, 115, 116] else if k = 9 then [102, 117, 110, 99, 116, 105, 111, 110] else []
theorem kKind (k : Int) : Con Tryz.prog 33 [.c (.lit (.int .i64 k))] [] (.c (.lit (str (kdT k)))) [] := by
  refine con_intro rfl rfl (by kernel_rfl) (by kernel_rfl) ?_
  refine js ?_
  refine u rfl rfl asg ?_
  refine jd ?_
  refine w2 0 2 ?_
  refine J_seq ?_
  refine js ?_
  refine u rfl rfl mv ?_
  refine jd ?_
  refine w2 2 3 ?_
  refine J_block ?_
  refine js ?_
  refine JR.runB rfl rfl (r_eqI rfl rfl rfl rfl) ?_ ?_
  · intro h5
    replace h5 := of_decide_eq_true h5
    refine u rfl rfl asg ?_
    refine jd ?_
    refine w3 2 3 4 ?_
    refine J_condT rfl ?_
    refine js ?_
    refine u rfl rfl asg ?_
    refine jd ?_
    refine w1 2 ?_
    refine J_ret ?_
    refine ⟨.inl rfl, _, rfl, .ofS ?_, trivial⟩
    simp_all [kdT]
  · intro h5
    replace h5 := of_decide_eq_false h5
    refine u rfl rfl asg ?_
    refine jd ?_
    refine w3 2 3 4 ?_
    refine J_condF rfl ?_
    refine js ?_
    refine JR.runB rfl rfl (r_eqI rfl rfl rfl rfl) ?_ ?_
    · intro h7
      replace h7 := of_decide_eq_true h7
      refine u rfl rfl asg ?_
      refine jd ?_
      refine w3 2 3 6 ?_
      refine J_condT rfl ?_
      refine js ?_
      refine u rfl rfl asg ?_
      refine jd ?_
      refine w1 2 ?_
      refine J_ret ?_
      refine ⟨.inl rfl, _, rfl, .ofS ?_, trivial⟩
      simp_all [kdT]
    · intro h7
      replace h7 := of_decide_eq_false h7
      refine u rfl rfl asg ?_
      refine jd ?_
      refine w3 2 3 6 ?_
      refine J_condF rfl ?_
      refine js ?_
      refine JR.runB rfl rfl (r_eqI rfl rfl rfl rfl) ?_ ?_
      · intro h9
        replace h9 := of_decide_eq_true h9
        refine u rfl rfl asg ?_
        refine jd ?_
        refine w3 2 3 8 ?_
        refine J_condT rfl ?_
        refine js ?_
        refine u rfl rfl asg ?_
        refine jd ?_
        refine w1 2 ?_
        refine J_ret ?_
        refine ⟨.inl rfl, _, rfl, .ofS ?_, trivial⟩
        simp_all [kdT]
      · intro h9
        replace h9 := of_decide_eq_false h9
        refine u rfl rfl asg ?_
        refine jd ?_
        refine w3 2 3 8 ?_
        refine J_condF rfl ?_
        refine js ?_
        refine JR.runB rfl rfl (r_eqI rfl rfl rfl rfl) ?_ ?_
        · intro h11
          replace h11 := of_decide_eq_true h11
          refine u rfl rfl asg ?_
          refine jd ?_
          refine w3 2 3 10 ?_
          refine J_condT rfl ?_
          refine js ?_
          refine u rfl rfl asg ?_
          refine jd ?_
          refine w1 2 ?_
          refine J_ret ?_
          refine ⟨.inl rfl, _, rfl, .ofS ?_, trivial⟩
          simp_all [kdT]
        · intro h11
          replace h11 := of_decide_eq_false h11
          refine u rfl rfl asg ?_
          refine jd ?_
          refine w3 2 3 10 ?_
          refine J_condF rfl ?_
          refine js ?_
          refine JR.runB rfl rfl (r_eqI rfl rfl rfl rfl) ?_ ?_
          · intro h13
            replace h13 := of_decide_eq_true h13
            refine u rfl rfl asg ?_
            refine jd ?_
            refine w3 2 3 12 ?_
            refine J_condT rfl ?_
            refine js ?_
            refine u rfl rfl asg ?_
            refine jd ?_
            refine w1 2 ?_
            refine J_ret ?_
            refine ⟨.inl rfl, _, rfl, .ofS ?_, trivial⟩
            simp_all [kdT]
          · intro h13
            replace h13 := of_decide_eq_false h13
            refine u rfl rfl asg ?_
            refine jd ?_
            refine w3 2 3 12 ?_
            refine J_condF rfl ?_
            refine js ?_
            refine JR.runB rfl rfl (r_eqI rfl rfl rfl rfl) ?_ ?_
            · intro h15
              replace h15 := of_decide_eq_true h15
              refine u rfl rfl asg ?_
              refine jd ?_
              refine w3 2 3 14 ?_
              refine J_condT rfl ?_
              refine js ?_
              refine u rfl rfl asg ?_
              refine jd ?_
              refine w1 2 ?_
              refine J_ret ?_
              refine ⟨.inl rfl, _, rfl, .ofS ?_, trivial⟩
              simp_all [kdT]
            · intro h15
              replace h15 := of_decide_eq_false h15
              refine u rfl rfl asg ?_
              refine jd ?_
              refine w3 2 3 14 ?_
              refine J_condF rfl ?_
              refine js ?_
              refine JR.runB rfl rfl (r_eqI rfl rfl rfl rfl) ?_ ?_
              · intro h17
                replace h17 := of_decide_eq_true h17
                refine u rfl rfl asg ?_
                refine jd ?_
                refine w3 2 3 16 ?_
                refine J_condT rfl ?_
                refine js ?_
                refine u rfl rfl asg ?_
                refine jd ?_
                refine w1 2 ?_
                refine J_ret ?_
                refine ⟨.inl rfl, _, rfl, .ofS ?_, trivial⟩
                simp_all [kdT]
              · intro h17
                replace h17 := of_decide_eq_false h17
                refine u rfl rfl asg ?_
                refine jd ?_
                refine w3 2 3 16 ?_
                refine J_condF rfl ?_
                refine js ?_
                refine JR.runB rfl rfl (r_eqI rfl rfl rfl rfl) ?_ ?_
                · intro h19
                  replace h19 := of_decide_eq_true h19
                  refine u rfl rfl asg ?_
                  refine jd ?_
                  refine w3 2 3 18 ?_
                  refine J_condT rfl ?_
                  refine js ?_
                  refine u rfl rfl asg ?_
                  refine jd ?_
                  refine w1 2 ?_
                  refine J_ret ?_
                  refine ⟨.inl rfl, _, rfl, .ofS ?_, trivial⟩
                  simp_all [kdT]
                · intro h19
                  replace h19 := of_decide_eq_false h19
                  refine u rfl rfl asg ?_
                  refine jd ?_
                  refine w3 2 3 18 ?_
                  refine J_condF rfl ?_
                  refine js ?_
                  refine JR.runB rfl rfl (r_eqI rfl rfl rfl rfl) ?_ ?_
                  · intro h21
                    replace h21 := of_decide_eq_true h21
                    refine u rfl rfl asg ?_
                    refine jd ?_
                    refine w2 2 20 ?_
                    refine J_condT rfl ?_
                    refine js ?_
                    refine u rfl rfl asg ?_
                    refine jd ?_
                    refine w1 2 ?_
                    refine J_ret ?_
                    refine ⟨.inl rfl, _, rfl, .ofS ?_, trivial⟩
                    simp_all [kdT]
                  · intro h21
                    replace h21 := of_decide_eq_false h21
                    refine u rfl rfl asg ?_
                    refine jd ?_
                    refine w2 2 20 ?_
                    refine J_condF rfl ?_
                    refine J_skip ?_
                    refine js ?_
                    refine u rfl rfl asg ?_
                    refine jd ?_
                    refine w1 2 ?_
                    refine J_ret ?_
                    refine ⟨.inl rfl, _, rfl, .ofS ?_, trivial⟩
                    simp_all [kdT]

namespace Tl
theorem isL_cases {t : Tl} (h : t.isL = true) : t = .nil ∨ ∃ a r, t = .cons a r := by
  cases t with
  | nil => exact .inl rfl
  | cons a r => exact .inr ⟨a, r, rfl⟩
  | _ => cases h
/-- the text of a list's elements; the first one has no comma ahead of it -/
def rt (i : Nat) (t : Tl) : List UInt8 := if i = 0 then (match t with | cons a r => a.tx false ++ r.tx true | _ => []) else t.tx true
theorem rt_nil (i : Nat) : rt i nil = [] := by unfold rt; split <;> rfl
theorem rt_cons (i : Nat) (a r : Tl) : rt i (cons a r) = (if i = 0 then [] else [44, 32]) ++ (a.tx false ++ rt (i + 1) r) := by
  unfold rt
  rw [if_neg (show ¬ i + 1 = 0 by omega)]
  split
  · rfl
  · rfl
theorem tx_list {t : Tl} (h : t.isL = true) : t.tx false = 91 :: (rt 0 t ++ [93]) := by
  rcases isL_cases h with rfl | ⟨a, r, rfl⟩
  · rfl
  · simp [tx, rt]
end Tl
theorem kVlist (m : Nat) (hmm : m ≤ 1000000) (t : Tl) (els : List (List D)) (hL0 : t.isL = true) (hok : t.ok) (hm : t.va.size ≤ m + 1) (hs : els.length + 604 * t.va.size + 2 ≤ 1000000000) (IH : ∀ (a : Tl) (els2 : List (List D)), a.va.size ≤ m → a.ok → els2.length + 604 * a.va.size + 2 ≤ 1000000000 → Con Tryz.prog 29 [.own byK 1 (els2), .agg (vaX a.va)] [] (.own byK 1 (els2 ++ bcells (a.tx false))) []) : Con Tryz.prog 29 [.own byK 1 (els), .agg (vaX t.va)] [] (.own byK 1 (els ++ bcells (91 :: (Tl.rt 0 t ++ [93])))) [] := by
  have hk : t.va.kind = 6 ∨ t.va.kind = 7 := by
    rcases Tl.isL_cases hL0 with rfl | ⟨a, r, rfl⟩
    · exact .inl rfl
    · exact .inr rfl
  refine con_intro rfl rfl (by kernel_rfl) (by kernel_rfl) ?_
  refine js ?_
  refine u rfl rfl (r_boxA (x := 2003) rfl rfl rfl rfl) ?_
  refine u rfl rfl asg ?_
  refine jd ?_
  refine w4 0 3 4 2003 ?_
  refine J_seq ?_
  refine js ?_
  refine u rfl rfl (fA 0 1) ?_
  refine u rfl rfl ld ?_
  refine jd ?_
  refine w5 0 3 4 9 2003 ?_
  refine J_block ?_
  refine js ?_
  refine u rfl rfl ((r_eqI rfl rfl rfl rfl).cast (cast_b (b' := false) (by exact decide_eq_false (by omega)))) ?_
  refine u rfl rfl asg ?_
  refine jd ?_
  refine w6 0 3 4 9 10 2003 ?_
  refine J_condF rfl ?_
  refine js ?_
  refine u rfl rfl ((r_eqI rfl rfl rfl rfl).cast (cast_b (b' := false) (by exact decide_eq_false (by omega)))) ?_
  refine u rfl rfl asg ?_
  refine jd ?_
  refine w6 0 3 4 9 17 2003 ?_
  refine J_condF rfl ?_
  refine js ?_
  refine u rfl rfl ((r_eqI rfl rfl rfl rfl).cast (cast_b (b' := false) (by exact decide_eq_false (by omega)))) ?_
  refine u rfl rfl asg ?_
  refine jd ?_
  refine w6 0 3 4 9 26 2003 ?_
  refine J_condF rfl ?_
  refine js ?_
  refine u rfl rfl ((r_eqI rfl rfl rfl rfl).cast (cast_b (b' := false) (by exact decide_eq_false (by omega)))) ?_
  refine u rfl rfl asg ?_
  refine jd ?_
  refine w6 0 3 4 9 37 2003 ?_
  refine J_condF rfl ?_
  refine js ?_
  refine u rfl rfl ((r_eqI rfl rfl rfl rfl).cast (cast_b (b' := false) (by exact decide_eq_false (by omega)))) ?_
  refine u rfl rfl asg ?_
  refine jd ?_
  refine w6 0 3 4 9 41 2003 ?_
  refine J_condF rfl ?_
  refine js ?_
  refine u rfl rfl ((r_eqI rfl rfl rfl rfl).cast (cast_b (b' := false) (by exact decide_eq_false (by omega)))) ?_
  refine u rfl rfl asg ?_
  refine jd ?_
  refine w5 0 3 4 45 2003 ?_
  refine J_condF rfl ?_
  refine J_skip ?_
  refine js ?_
  refine u rfl rfl (r_moveOwn rfl rfl rfl rfl) ?_
  refine u rfl rfl (r_buildSlice (e := 5) (sz := 1) (zs := [.int .u8 0]) ([[.lit (.int .u8 91)]]) rfl rfl (by kernel_rfl) (by kernel_rfl) rfl rfl rfl rfl) ?_
  refine u rfl rfl (r_append (e := 5) (sz := 1) (b := 1) rfl rfl (by kernel_rfl) rfl rfl (by first | omega | (simp only [List.length_append]; omega) | (simp only [List.length_cons, List.length_nil]; omega) | (simp only [List.length_append, List.length_cons, List.length_nil]; omega) | (simp only [List.length_append, bcells_len]; omega) | (simp only [List.length_append, bcells_len, List.length_cons, List.length_nil]; omega) | (simp only [bcells_len, List.length_cons, List.length_nil]; omega)) (by first | omega | (simp only [List.length_append]; omega) | (simp only [List.length_cons, List.length_nil]; omega) | (simp only [List.length_append, List.length_cons, List.length_nil]; omega) | (simp only [List.length_append, bcells_len]; omega) | (simp only [List.length_append, bcells_len, List.length_cons, List.length_nil]; omega) | (simp only [bcells_len, List.length_cons, List.length_nil]; omega))) ?_
  refine u rfl rfl (r_assignOwn rfl rfl rfl rfl) ?_
  refine jd ?_
  refine w4 0 3 4 2003 ?_
  refine J_seq ?_
  refine js ?_
  refine u rfl rfl asg ?_
  refine jd ?_
  refine w5 0 3 4 7 2003 ?_
  refine J_block ?_
  refine J_loopF (α := { p : Nat × Tl × List (List D) // p.2.1.isL = true ∧ p.2.1.ok ∧ (p.1 = 0 ∨ p.2.1.va.size ≤ m) ∧ p.2.2.length + 604 * p.2.1.va.size + 1 ≤ 1000000000 ∧ p.1 + p.2.1.va.size ≤ m + 1 ∧ els ++ bcells (91 :: (Tl.rt 0 t ++ [93])) = p.2.2 ++ bcells (Tl.rt p.1 p.2.1 ++ [93]) }) (fun p => [(0, .own byK 1 (p.1.2.2)), (7, .c (.lit (.int .i64 (p.1.1 : Int)))), (2003, .var 30 ((vaX p.1.2.1.va).map .d))]) [(3, _), (4, _)] (fun p => p.1.2.1.va.size) ⟨(0, t, els ++ bcells [91]), hL0, hok, .inl rfl, by simp only; first | omega | (simp only [List.length_append]; omega) | (simp only [List.length_cons, List.length_nil]; omega) | (simp only [List.length_append, List.length_cons, List.length_nil]; omega) | (simp only [List.length_append, bcells_len]; omega) | (simp only [List.length_append, bcells_len, List.length_cons, List.length_nil]; omega) | (simp only [bcells_len, List.length_cons, List.length_nil]; omega), by simp only; omega, by simp [bcells]⟩ ⟨rfl, rfl, rfl, rfl, rfl, trivial⟩ ?_
  rintro ⟨⟨i, u, els1⟩, hL, hok', hsm, hlen, him, hE⟩
  dsimp only at hL hok' hsm hlen him hE ⊢
  rcases Tl.isL_cases hL with rfl | ⟨a, r, rfl⟩
  · rw [Tl.rt_nil, List.nil_append] at hE
    refine J_seq ?_
    refine js ?_
    refine u rfl rfl (fA 0 1) ?_
    refine u rfl rfl ld ?_
    refine u rfl rfl (r_eqI rfl rfl rfl rfl) ?_
    refine jd ?_
    refine w8 0 3 4 7 67 68 69 2003 ?_
    refine J_condF rfl ?_
    refine J_exit ?_
    refine js ?_
    refine u rfl rfl (r_moveOwn rfl rfl rfl rfl) ?_
    refine u rfl rfl (r_buildSlice (e := 5) (sz := 1) (zs := [.int .u8 0]) ([[.lit (.int .u8 93)]]) rfl rfl (by kernel_rfl) (by kernel_rfl) rfl rfl rfl rfl) ?_
    refine u rfl rfl (r_append (e := 5) (sz := 1) (b := 1) rfl rfl (by kernel_rfl) rfl rfl (by first | omega | (simp only [List.length_append]; omega) | (simp only [List.length_cons, List.length_nil]; omega) | (simp only [List.length_append, List.length_cons, List.length_nil]; omega) | (simp only [List.length_append, bcells_len]; omega) | (simp only [List.length_append, bcells_len, List.length_cons, List.length_nil]; omega) | (simp only [bcells_len, List.length_cons, List.length_nil]; omega)) (by first | omega | (simp only [List.length_append]; omega) | (simp only [List.length_cons, List.length_nil]; omega) | (simp only [List.length_append, List.length_cons, List.length_nil]; omega) | (simp only [List.length_append, bcells_len]; omega) | (simp only [List.length_append, bcells_len, List.length_cons, List.length_nil]; omega) | (simp only [bcells_len, List.length_cons, List.length_nil]; omega))) ?_
    refine u rfl rfl (r_assignOwn rfl rfl rfl rfl) ?_
    refine jd ?_
    refine w1 4 ?_
    refine J_ret ?_
    refine ⟨.inl rfl, _, rfl, .of ?_, trivial⟩
    rw [hE]
    rfl
  · rw [Tl.rt_cons] at hE
    have sz := (show (Tl.cons a r).va.size = 1 + (a.va.size + (r.va.size + 0)) by simp only [Tl.va, Va.size, Va.sizes])
    have la := Tl.tx_len a false hok'.1
    have ra := r.va.size_pos
    have ca := fun els2 hl2 => IH a els2 (by omega) hok'.1 hl2
    refine J_seq ?_
    refine js ?_
    refine u rfl rfl (fA 0 1) ?_
    refine u rfl rfl ld ?_
    refine u rfl rfl (r_eqI rfl rfl rfl rfl) ?_
    refine jd ?_
    refine w8 0 3 4 7 67 68 69 2003 ?_
    refine J_condT rfl ?_
    refine J_skip ?_
    refine J_seq ?_
    refine J_block ?_
    refine J_seq ?_
    refine js ?_
    refine u rfl rfl mv ?_
    refine JR.runB rfl rfl (r_gtI rfl rfl rfl rfl) ?_ ?_
    · intro h73
      replace h73 := of_decide_eq_true h73
      refine jd ?_
      refine w10 0 3 4 7 67 68 69 72 73 2003 ?_
      refine J_condT rfl ?_
      refine JR.start ?_
      refine u rfl rfl (r_moveOwn rfl rfl rfl rfl) ?_
      refine u rfl rfl (r_appendS (e := 5) rfl rfl (by kernel_rfl) (by kernel_rfl) (by kernel_rfl) rfl rfl (by first | omega | (simp only [List.length_append]; omega) | (simp only [List.length_cons, List.length_nil]; omega) | (simp only [List.length_append, List.length_cons, List.length_nil]; omega) | (simp only [List.length_append, bcells_len]; omega) | (simp only [List.length_append, bcells_len, List.length_cons, List.length_nil]; omega) | (simp only [bcells_len, List.length_cons, List.length_nil]; omega))) ?_
      refine u rfl rfl (r_assignOwn rfl rfl rfl rfl) ?_
      refine jd ?_
      refine w10 0 3 4 7 67 68 69 72 73 2003 ?_
      refine js ?_
      refine u rfl rfl (r_moveOwn rfl rfl rfl rfl) ?_
      refine u rfl rfl (fA 8 1) ?_
      refine u rfl rfl ld ?_
      refine u rfl rfl (r_indexAddr (e := 30) (sz := 9) rfl rfl (by kernel_rfl) rfl rfl (Int.le_refl 0) (vasD_at (l := [a.va, r.va]) (i := 0) rfl)) ?_
      refine u rfl rfl (eA 9) ?_
      refine u rfl rfl (cl (ca (els1 ++ bcells [44, 32]) (by first | omega | (simp only [List.length_append]; omega) | (simp only [List.length_cons, List.length_nil]; omega) | (simp only [List.length_append, List.length_cons, List.length_nil]; omega) | (simp only [List.length_append, bcells_len]; omega) | (simp only [List.length_append, bcells_len, List.length_cons, List.length_nil]; omega) | (simp only [bcells_len, List.length_cons, List.length_nil]; omega)))) ?_
      refine u rfl rfl (r_assignOwn rfl rfl rfl rfl) ?_
      refine jd ?_
      refine w14 0 3 4 7 67 68 69 72 73 77 78 79 80 2003 ?_
      refine JR.start ?_
      refine u rfl rfl (fA 8 1) ?_
      refine u rfl rfl ld ?_
      refine u rfl rfl (r_indexAddr (e := 30) (sz := 9) rfl rfl (by kernel_rfl) rfl rfl (by decide) (vasD_at (l := [a.va, r.va]) (i := 1) rfl)) ?_
      refine u rfl rfl (eA 9) ?_
      refine u rfl rfl sA ?_
      refine jd ?_
      refine w18 0 3 4 7 67 68 69 72 73 77 78 79 80 82 83 84 85 2003 ?_
      refine JR.start ?_
      refine u rfl rfl mv ?_
      refine u rfl rfl (r_addI rfl rfl rfl rfl (by omega)) ?_
      refine u rfl rfl asg ?_
      refine jd ?_
      refine ⟨⟨(i + 1, r, _), hok'.2.2, hok'.2.1, by simp only; omega, by simp only; first | omega | (simp only [List.length_append]; omega) | (simp only [List.length_cons, List.length_nil]; omega) | (simp only [List.length_append, List.length_cons, List.length_nil]; omega) | (simp only [List.length_append, bcells_len]; omega) | (simp only [List.length_append, bcells_len, List.length_cons, List.length_nil]; omega) | (simp only [bcells_len, List.length_cons, List.length_nil]; omega), by simp only; omega, ?_⟩, by simp only; omega, rfl, rfl, rfl, rfl, rfl, trivial⟩
      rw [hE]
      simp only [show ¬ i = 0 by omega, if_false]
      simp [bcells]
    · intro h73
      replace h73 := of_decide_eq_false h73
      refine jd ?_
      refine w10 0 3 4 7 67 68 69 72 73 2003 ?_
      refine J_condF rfl ?_
      refine J_skip ?_
      refine js ?_
      refine u rfl rfl (r_moveOwn rfl rfl rfl rfl) ?_
      refine u rfl rfl (fA 8 1) ?_
      refine u rfl rfl ld ?_
      refine u rfl rfl (r_indexAddr (e := 30) (sz := 9) rfl rfl (by kernel_rfl) rfl rfl (Int.le_refl 0) (vasD_at (l := [a.va, r.va]) (i := 0) rfl)) ?_
      refine u rfl rfl (eA 9) ?_
      refine u rfl rfl (cl (ca (els1) (by first | omega | (simp only [List.length_append]; omega) | (simp only [List.length_cons, List.length_nil]; omega) | (simp only [List.length_append, List.length_cons, List.length_nil]; omega) | (simp only [List.length_append, bcells_len]; omega) | (simp only [List.length_append, bcells_len, List.length_cons, List.length_nil]; omega) | (simp only [bcells_len, List.length_cons, List.length_nil]; omega)))) ?_
      refine u rfl rfl (r_assignOwn rfl rfl rfl rfl) ?_
      refine jd ?_
      refine w14 0 3 4 7 67 68 69 72 73 77 78 79 80 2003 ?_
      refine JR.start ?_
      refine u rfl rfl (fA 8 1) ?_
      refine u rfl rfl ld ?_
      refine u rfl rfl (r_indexAddr (e := 30) (sz := 9) rfl rfl (by kernel_rfl) rfl rfl (by decide) (vasD_at (l := [a.va, r.va]) (i := 1) rfl)) ?_
      refine u rfl rfl (eA 9) ?_
      refine u rfl rfl sA ?_
      refine jd ?_
      refine w18 0 3 4 7 67 68 69 72 73 77 78 79 80 82 83 84 85 2003 ?_
      refine JR.start ?_
      refine u rfl rfl mv ?_
      refine u rfl rfl (r_addI rfl rfl rfl rfl (by omega)) ?_
      refine u rfl rfl asg ?_
      refine jd ?_
      refine ⟨⟨(i + 1, r, _), hok'.2.2, hok'.2.1, by simp only; omega, by simp only; first | omega | (simp only [List.length_append]; omega) | (simp only [List.length_cons, List.length_nil]; omega) | (simp only [List.length_append, List.length_cons, List.length_nil]; omega) | (simp only [List.length_append, bcells_len]; omega) | (simp only [List.length_append, bcells_len, List.length_cons, List.length_nil]; omega) | (simp only [bcells_len, List.length_cons, List.length_nil]; omega), by simp only; omega, ?_⟩, by simp only; omega, rfl, rfl, rfl, rfl, rfl, trivial⟩
      rw [hE]
      simp only [show i = 0 by omega, if_true]
      simp [bcells]

theorem kVput : ∀ (m : Nat) (t : Tl) (els : List (List D)), m ≤ 1000000 → t.va.size ≤ m → t.ok → els.length + 604 * t.va.size + 2 ≤ 1000000000 → Con Tryz.prog 29 [.own byK 1 (els), .agg (vaX t.va)] [] (.own byK 1 (els ++ bcells (t.tx false))) []
  | 0, t, _, _, h, _, _ => absurd t.va.size_pos (by omega)
  | m + 1, t, els, hmm, hm, hok, hs => by
    have hlist : t.isL = true → Con Tryz.prog 29 [.own byK 1 (els), .agg (vaX t.va)] [] (.own byK 1 (els ++ bcells (t.tx false))) [] := fun hL => by
      have := kVlist m (by omega) t els hL hok hm hs (fun a els2 h1 h2 h3 => kVput m a els2 (by omega) h1 h2 h3)
      rw [← Tl.tx_list hL] at this
      exact this
    cases t with
    | nil => exact hlist rfl
    | cons a b => exact hlist rfl
    | int n =>
      clear hlist
      have ln := mNum_20 n
      have sz : (Tl.int n).va.size = 1 := rfl
      refine con_intro rfl rfl (by kernel_rfl) (by kernel_rfl) ?_
      refine js ?_
      refine u rfl rfl (r_boxA (x := 2003) rfl rfl rfl rfl) ?_
      refine u rfl rfl asg ?_
      refine jd ?_
      refine w4 0 3 4 2003 ?_
      refine J_seq ?_
      refine js ?_
      refine u rfl rfl (fA 0 1) ?_
      refine u rfl rfl ld ?_
      refine jd ?_
      refine w5 0 3 4 9 2003 ?_
      refine J_block ?_
      refine js ?_
      refine u rfl rfl (r_eqI rfl rfl rfl rfl) ?_
      refine u rfl rfl asg ?_
      refine jd ?_
      refine w6 0 3 4 9 10 2003 ?_
      refine J_condT rfl ?_
      refine js ?_
      refine u rfl rfl (r_moveOwn rfl rfl rfl rfl) ?_
      refine u rfl rfl (fA 1 1) ?_
      refine u rfl rfl ld ?_
      refine u rfl rfl (cl (kNum n hok)) ?_
      refine u rfl rfl (r_appendS (e := 5) rfl rfl (by kernel_rfl) (by kernel_rfl) (by kernel_rfl) rfl rfl (by first | omega | (simp only [List.length_append]; omega) | (simp only [List.length_cons, List.length_nil]; omega) | (simp only [List.length_append, List.length_cons, List.length_nil]; omega) | (simp only [List.length_append, bcells_len]; omega) | (simp only [List.length_append, bcells_len, List.length_cons, List.length_nil]; omega) | (simp only [bcells_len, List.length_cons, List.length_nil]; omega))) ?_
      refine u rfl rfl (r_assignOwn rfl rfl rfl rfl) ?_
      refine jd ?_
      refine w3 3 4 2003 ?_
      refine J_ret ?_
      exact ⟨.inl rfl, _, rfl, .of rfl, trivial⟩
    | bool b =>
      clear hlist
      have sz : (Tl.bool b).va.size = 1 := rfl
      cases b
      · refine con_intro rfl rfl (by kernel_rfl) (by kernel_rfl) ?_
        refine js ?_
        refine u rfl rfl (r_boxA (x := 2003) rfl rfl rfl rfl) ?_
        refine u rfl rfl asg ?_
        refine jd ?_
        refine w4 0 3 4 2003 ?_
        refine J_seq ?_
        refine js ?_
        refine u rfl rfl (fA 0 1) ?_
        refine u rfl rfl ld ?_
        refine jd ?_
        refine w5 0 3 4 9 2003 ?_
        refine J_block ?_
        refine js ?_
        refine u rfl rfl (r_eqI rfl rfl rfl rfl) ?_
        refine u rfl rfl asg ?_
        refine jd ?_
        refine w6 0 3 4 9 10 2003 ?_
        refine J_condF rfl ?_
        refine js ?_
        refine u rfl rfl (r_eqI rfl rfl rfl rfl) ?_
        refine u rfl rfl asg ?_
        refine jd ?_
        refine w6 0 3 4 9 17 2003 ?_
        refine J_condT rfl ?_
        refine J_seq ?_
        refine js ?_
        refine u rfl rfl (fA 1 1) ?_
        refine u rfl rfl ld ?_
        refine u rfl rfl (r_eqI rfl rfl rfl rfl) ?_
        refine jd ?_
        refine w5 0 3 4 21 2003 ?_
        refine J_condF rfl ?_
        refine J_skip ?_
        refine js ?_
        refine u rfl rfl (r_moveOwn rfl rfl rfl rfl) ?_
        refine u rfl rfl (r_appendS (e := 5) rfl rfl (by kernel_rfl) (by kernel_rfl) (by kernel_rfl) rfl rfl (by first | omega | (simp only [List.length_append]; omega) | (simp only [List.length_cons, List.length_nil]; omega) | (simp only [List.length_append, List.length_cons, List.length_nil]; omega) | (simp only [List.length_append, bcells_len]; omega) | (simp only [List.length_append, bcells_len, List.length_cons, List.length_nil]; omega) | (simp only [bcells_len, List.length_cons, List.length_nil]; omega))) ?_
        refine u rfl rfl (r_assignOwn rfl rfl rfl rfl) ?_
        refine jd ?_
        refine w3 3 4 2003 ?_
        refine J_ret ?_
        exact ⟨.inl rfl, _, rfl, .of rfl, trivial⟩
      · refine con_intro rfl rfl (by kernel_rfl) (by kernel_rfl) ?_
        refine js ?_
        refine u rfl rfl (r_boxA (x := 2003) rfl rfl rfl rfl) ?_
        refine u rfl rfl asg ?_
        refine jd ?_
        refine w4 0 3 4 2003 ?_
        refine J_seq ?_
        refine js ?_
        refine u rfl rfl (fA 0 1) ?_
        refine u rfl rfl ld ?_
        refine jd ?_
        refine w5 0 3 4 9 2003 ?_
        refine J_block ?_
        refine js ?_
        refine u rfl rfl (r_eqI rfl rfl rfl rfl) ?_
        refine u rfl rfl asg ?_
        refine jd ?_
        refine w6 0 3 4 9 10 2003 ?_
        refine J_condF rfl ?_
        refine js ?_
        refine u rfl rfl (r_eqI rfl rfl rfl rfl) ?_
        refine u rfl rfl asg ?_
        refine jd ?_
        refine w6 0 3 4 9 17 2003 ?_
        refine J_condT rfl ?_
        refine J_seq ?_
        refine js ?_
        refine u rfl rfl (fA 1 1) ?_
        refine u rfl rfl ld ?_
        refine u rfl rfl (r_eqI rfl rfl rfl rfl) ?_
        refine jd ?_
        refine w5 0 3 4 21 2003 ?_
        refine J_condT rfl ?_
        refine js ?_
        refine u rfl rfl (r_moveOwn rfl rfl rfl rfl) ?_
        refine u rfl rfl (r_appendS (e := 5) rfl rfl (by kernel_rfl) (by kernel_rfl) (by kernel_rfl) rfl rfl (by first | omega | (simp only [List.length_append]; omega) | (simp only [List.length_cons, List.length_nil]; omega) | (simp only [List.length_append, List.length_cons, List.length_nil]; omega) | (simp only [List.length_append, bcells_len]; omega) | (simp only [List.length_append, bcells_len, List.length_cons, List.length_nil]; omega) | (simp only [bcells_len, List.length_cons, List.length_nil]; omega))) ?_
        refine u rfl rfl (r_assignOwn rfl rfl rfl rfl) ?_
        refine jd ?_
        refine w3 3 4 2003 ?_
        refine J_ret ?_
        exact ⟨.inl rfl, _, rfl, .of rfl, trivial⟩
    | str s =>
      clear hlist
      have ln := long_lenV s
      have hok2 : s.length ≤ 200 := hok
      have sz : (Tl.str s).va.size = 1 := rfl
      refine con_intro rfl rfl (by kernel_rfl) (by kernel_rfl) ?_
      refine js ?_
      refine u rfl rfl (r_boxA (x := 2003) rfl rfl rfl rfl) ?_
      refine u rfl rfl asg ?_
      refine jd ?_
      refine w4 0 3 4 2003 ?_
      refine J_seq ?_
      refine js ?_
      refine u rfl rfl (fA 0 1) ?_
      refine u rfl rfl ld ?_
      refine jd ?_
      refine w5 0 3 4 9 2003 ?_
      refine J_block ?_
      refine js ?_
      refine u rfl rfl (r_eqI rfl rfl rfl rfl) ?_
      refine u rfl rfl asg ?_
      refine jd ?_
      refine w6 0 3 4 9 10 2003 ?_
      refine J_condF rfl ?_
      refine js ?_
      refine u rfl rfl (r_eqI rfl rfl rfl rfl) ?_
      refine u rfl rfl asg ?_
      refine jd ?_
      refine w6 0 3 4 9 17 2003 ?_
      refine J_condF rfl ?_
      refine js ?_
      refine u rfl rfl (r_eqI rfl rfl rfl rfl) ?_
      refine u rfl rfl asg ?_
      refine jd ?_
      refine w6 0 3 4 9 26 2003 ?_
      refine J_condT rfl ?_
      refine js ?_
      refine u rfl rfl (fA 2 1) ?_
      refine u rfl rfl ld ?_
      refine u rfl rfl (cl (kQuote s hok)) ?_
      refine u rfl rfl mv ?_
      refine u rfl rfl xt ?_
      refine u rfl rfl xt ?_
      refine u rfl rfl asg ?_
      refine u rfl rfl asg ?_
      refine jd ?_
      refine w5 0 3 4 5 2003 ?_
      refine js ?_
      refine u rfl rfl (r_moveOwn rfl rfl rfl rfl) ?_
      refine u rfl rfl mv ?_
      refine u rfl rfl (r_appendS (e := 5) rfl rfl (by kernel_rfl) (by kernel_rfl) (by kernel_rfl) rfl rfl (by first | omega | (simp only [List.length_append]; omega) | (simp only [List.length_cons, List.length_nil]; omega) | (simp only [List.length_append, List.length_cons, List.length_nil]; omega) | (simp only [List.length_append, bcells_len]; omega) | (simp only [List.length_append, bcells_len, List.length_cons, List.length_nil]; omega) | (simp only [bcells_len, List.length_cons, List.length_nil]; omega))) ?_
      refine u rfl rfl (r_assignOwn rfl rfl rfl rfl) ?_
      refine jd ?_
      refine w3 3 4 2003 ?_
      refine J_ret ?_
      exact ⟨.inl rfl, _, rfl, .of rfl, trivial⟩
    | unit =>
      clear hlist
      have sz : (Tl.unit).va.size = 1 := rfl
      refine con_intro rfl rfl (by kernel_rfl) (by kernel_rfl) ?_
      refine js ?_
      refine u rfl rfl (r_boxA (x := 2003) rfl rfl rfl rfl) ?_
      refine u rfl rfl asg ?_
      refine jd ?_
      refine w4 0 3 4 2003 ?_
      refine J_seq ?_
      refine js ?_
      refine u rfl rfl (fA 0 1) ?_
      refine u rfl rfl ld ?_
      refine jd ?_
      refine w5 0 3 4 9 2003 ?_
      refine J_block ?_
      refine js ?_
      refine u rfl rfl (r_eqI rfl rfl rfl rfl) ?_
      refine u rfl rfl asg ?_
      refine jd ?_
      refine w6 0 3 4 9 10 2003 ?_
      refine J_condF rfl ?_
      refine js ?_
      refine u rfl rfl (r_eqI rfl rfl rfl rfl) ?_
      refine u rfl rfl asg ?_
      refine jd ?_
      refine w6 0 3 4 9 17 2003 ?_
      refine J_condF rfl ?_
      refine js ?_
      refine u rfl rfl (r_eqI rfl rfl rfl rfl) ?_
      refine u rfl rfl asg ?_
      refine jd ?_
      refine w6 0 3 4 9 26 2003 ?_
      refine J_condF rfl ?_
      refine js ?_
      refine u rfl rfl (r_eqI rfl rfl rfl rfl) ?_
      refine u rfl rfl asg ?_
      refine jd ?_
      refine w6 0 3 4 9 37 2003 ?_
      refine J_condT rfl ?_
      refine js ?_
      refine u rfl rfl (r_moveOwn rfl rfl rfl rfl) ?_
      refine u rfl rfl (r_appendS (e := 5) rfl rfl (by kernel_rfl) (by kernel_rfl) (by kernel_rfl) rfl rfl (by first | omega | (simp only [List.length_append]; omega) | (simp only [List.length_cons, List.length_nil]; omega) | (simp only [List.length_append, List.length_cons, List.length_nil]; omega) | (simp only [List.length_append, bcells_len]; omega) | (simp only [List.length_append, bcells_len, List.length_cons, List.length_nil]; omega) | (simp only [bcells_len, List.length_cons, List.length_nil]; omega))) ?_
      refine u rfl rfl (r_assignOwn rfl rfl rfl rfl) ?_
      refine jd ?_
      refine w3 3 4 2003 ?_
      refine J_ret ?_
      exact ⟨.inl rfl, _, rfl, .of rfl, trivial⟩
    | func =>
      clear hlist
      have sz : (Tl.func).va.size = 1 := rfl
      refine con_intro rfl rfl (by kernel_rfl) (by kernel_rfl) ?_
      refine js ?_
      refine u rfl rfl (r_boxA (x := 2003) rfl rfl rfl rfl) ?_
      refine u rfl rfl asg ?_
      refine jd ?_
      refine w4 0 3 4 2003 ?_
      refine J_seq ?_
      refine js ?_
      refine u rfl rfl (fA 0 1) ?_
      refine u rfl rfl ld ?_
      refine jd ?_
      refine w5 0 3 4 9 2003 ?_
      refine J_block ?_
      refine js ?_
      refine u rfl rfl (r_eqI rfl rfl rfl rfl) ?_
      refine u rfl rfl asg ?_
      refine jd ?_
      refine w6 0 3 4 9 10 2003 ?_
      refine J_condF rfl ?_
      refine js ?_
      refine u rfl rfl (r_eqI rfl rfl rfl rfl) ?_
      refine u rfl rfl asg ?_
      refine jd ?_
      refine w6 0 3 4 9 17 2003 ?_
      refine J_condF rfl ?_
      refine js ?_
      refine u rfl rfl (r_eqI rfl rfl rfl rfl) ?_
      refine u rfl rfl asg ?_
      refine jd ?_
      refine w6 0 3 4 9 26 2003 ?_
      refine J_condF rfl ?_
      refine js ?_
      refine u rfl rfl (r_eqI rfl rfl rfl rfl) ?_
      refine u rfl rfl asg ?_
      refine jd ?_
      refine w6 0 3 4 9 37 2003 ?_
      refine J_condF rfl ?_
      refine js ?_
      refine u rfl rfl (r_eqI rfl rfl rfl rfl) ?_
      refine u rfl rfl asg ?_
      refine jd ?_
      refine w6 0 3 4 9 41 2003 ?_
      refine J_condT rfl ?_
      refine js ?_
      refine u rfl rfl (r_moveOwn rfl rfl rfl rfl) ?_
      refine u rfl rfl (r_appendS (e := 5) rfl rfl (by kernel_rfl) (by kernel_rfl) (by kernel_rfl) rfl rfl (by first | omega | (simp only [List.length_append]; omega) | (simp only [List.length_cons, List.length_nil]; omega) | (simp only [List.length_append, List.length_cons, List.length_nil]; omega) | (simp only [List.length_append, bcells_len]; omega) | (simp only [List.length_append, bcells_len, List.length_cons, List.length_nil]; omega) | (simp only [bcells_len, List.length_cons, List.length_nil]; omega))) ?_
      refine u rfl rfl (r_assignOwn rfl rfl rfl rfl) ?_
      refine jd ?_
      refine w3 3 4 2003 ?_
      refine J_ret ?_
      exact ⟨.inl rfl, _, rfl, .of rfl, trivial⟩
    | pair a b =>
      clear hlist
      have sz := (show (Tl.pair a b).va.size = 1 + (a.va.size + (b.va.size + 0)) by simp only [Tl.va, Va.size, Va.sizes])
      have la := Tl.tx_len a false hok.1
      have lb := Tl.tx_len b false hok.2
      have ca := fun els2 hl2 => kVput m a els2 (by omega) (by omega) hok.1 hl2
      have cb := fun els2 hl2 => kVput m b els2 (by omega) (by omega) hok.2 hl2
      refine con_intro rfl rfl (by kernel_rfl) (by kernel_rfl) ?_
      refine js ?_
      refine u rfl rfl (r_boxA (x := 2003) rfl rfl rfl rfl) ?_
      refine u rfl rfl asg ?_
      refine jd ?_
      refine w4 0 3 4 2003 ?_
      refine J_seq ?_
      refine js ?_
      refine u rfl rfl (fA 0 1) ?_
      refine u rfl rfl ld ?_
      refine jd ?_
      refine w5 0 3 4 9 2003 ?_
      refine J_block ?_
      refine js ?_
      refine u rfl rfl (r_eqI rfl rfl rfl rfl) ?_
      refine u rfl rfl asg ?_
      refine jd ?_
      refine w6 0 3 4 9 10 2003 ?_
      refine J_condF rfl ?_
      refine js ?_
      refine u rfl rfl (r_eqI rfl rfl rfl rfl) ?_
      refine u rfl rfl asg ?_
      refine jd ?_
      refine w6 0 3 4 9 17 2003 ?_
      refine J_condF rfl ?_
      refine js ?_
      refine u rfl rfl (r_eqI rfl rfl rfl rfl) ?_
      refine u rfl rfl asg ?_
      refine jd ?_
      refine w6 0 3 4 9 26 2003 ?_
      refine J_condF rfl ?_
      refine js ?_
      refine u rfl rfl (r_eqI rfl rfl rfl rfl) ?_
      refine u rfl rfl asg ?_
      refine jd ?_
      refine w6 0 3 4 9 37 2003 ?_
      refine J_condF rfl ?_
      refine js ?_
      refine u rfl rfl (r_eqI rfl rfl rfl rfl) ?_
      refine u rfl rfl asg ?_
      refine jd ?_
      refine w6 0 3 4 9 41 2003 ?_
      refine J_condF rfl ?_
      refine js ?_
      refine u rfl rfl (r_eqI rfl rfl rfl rfl) ?_
      refine u rfl rfl asg ?_
      refine jd ?_
      refine w5 0 3 4 45 2003 ?_
      refine J_condT rfl ?_
      refine js ?_
      refine u rfl rfl (r_moveOwn rfl rfl rfl rfl) ?_
      refine u rfl rfl (r_buildSlice (e := 5) (sz := 1) (zs := [.int .u8 0]) ([[.lit (.int .u8 40)]]) rfl rfl (by kernel_rfl) (by kernel_rfl) rfl rfl rfl rfl) ?_
      refine u rfl rfl (r_append (e := 5) (sz := 1) (b := 1) rfl rfl (by kernel_rfl) rfl rfl (by first | omega | (simp only [List.length_append]; omega) | (simp only [List.length_cons, List.length_nil]; omega) | (simp only [List.length_append, List.length_cons, List.length_nil]; omega) | (simp only [List.length_append, bcells_len]; omega) | (simp only [List.length_append, bcells_len, List.length_cons, List.length_nil]; omega) | (simp only [bcells_len, List.length_cons, List.length_nil]; omega)) (by first | omega | (simp only [List.length_append]; omega) | (simp only [List.length_cons, List.length_nil]; omega) | (simp only [List.length_append, List.length_cons, List.length_nil]; omega) | (simp only [List.length_append, bcells_len]; omega) | (simp only [List.length_append, bcells_len, List.length_cons, List.length_nil]; omega) | (simp only [bcells_len, List.length_cons, List.length_nil]; omega))) ?_
      refine u rfl rfl (fA 8 1) ?_
      refine u rfl rfl ld ?_
      refine u rfl rfl (r_indexAddr (e := 30) (sz := 9) rfl rfl (by kernel_rfl) rfl rfl (Int.le_refl 0) (vasD_at (l := [a.va, b.va]) (i := 0) rfl)) ?_
      refine u rfl rfl (eA 9) ?_
      refine u rfl rfl (cl (ca (els ++ [[.lit (.int .u8 40)]]) (by first | omega | (simp only [List.length_append]; omega) | (simp only [List.length_cons, List.length_nil]; omega) | (simp only [List.length_append, List.length_cons, List.length_nil]; omega) | (simp only [List.length_append, bcells_len]; omega) | (simp only [List.length_append, bcells_len, List.length_cons, List.length_nil]; omega) | (simp only [bcells_len, List.length_cons, List.length_nil]; omega)))) ?_
      refine u rfl rfl (r_appendS (e := 5) rfl rfl (by kernel_rfl) (by kernel_rfl) (by kernel_rfl) rfl rfl (by first | omega | (simp only [List.length_append]; omega) | (simp only [List.length_cons, List.length_nil]; omega) | (simp only [List.length_append, List.length_cons, List.length_nil]; omega) | (simp only [List.length_append, bcells_len]; omega) | (simp only [List.length_append, bcells_len, List.length_cons, List.length_nil]; omega) | (simp only [bcells_len, List.length_cons, List.length_nil]; omega))) ?_
      refine u rfl rfl (r_assignOwn rfl rfl rfl rfl) ?_
      refine jD [0, 0, 3, 0, 8, 24, 56, 127, 255, 511] ?_
      refine w4 0 3 4 2003 ?_
      refine js ?_
      refine u rfl rfl (r_moveOwn rfl rfl rfl rfl) ?_
      refine u rfl rfl (fA 8 1) ?_
      refine u rfl rfl ld ?_
      refine u rfl rfl (r_indexAddr (e := 30) (sz := 9) rfl rfl (by kernel_rfl) rfl rfl (by decide) (vasD_at (l := [a.va, b.va]) (i := 1) rfl)) ?_
      refine u rfl rfl (eA 9) ?_
      refine u rfl rfl (cl (cb (els ++ [[.lit (.int .u8 40)]] ++ bcells (a.tx false) ++ bcells [44, 32]) (by first | omega | (simp only [List.length_append]; omega) | (simp only [List.length_cons, List.length_nil]; omega) | (simp only [List.length_append, List.length_cons, List.length_nil]; omega) | (simp only [List.length_append, bcells_len]; omega) | (simp only [List.length_append, bcells_len, List.length_cons, List.length_nil]; omega) | (simp only [bcells_len, List.length_cons, List.length_nil]; omega)))) ?_
      refine u rfl rfl (r_buildSlice (e := 5) (sz := 1) (zs := [.int .u8 0]) ([[.lit (.int .u8 41)]]) rfl rfl (by kernel_rfl) (by kernel_rfl) rfl rfl rfl rfl) ?_
      refine u rfl rfl (r_append (e := 5) (sz := 1) (b := 1) rfl rfl (by kernel_rfl) rfl rfl (by first | omega | (simp only [List.length_append]; omega) | (simp only [List.length_cons, List.length_nil]; omega) | (simp only [List.length_append, List.length_cons, List.length_nil]; omega) | (simp only [List.length_append, bcells_len]; omega) | (simp only [List.length_append, bcells_len, List.length_cons, List.length_nil]; omega) | (simp only [bcells_len, List.length_cons, List.length_nil]; omega)) (by first | omega | (simp only [List.length_append]; omega) | (simp only [List.length_cons, List.length_nil]; omega) | (simp only [List.length_append, List.length_cons, List.length_nil]; omega) | (simp only [List.length_append, bcells_len]; omega) | (simp only [List.length_append, bcells_len, List.length_cons, List.length_nil]; omega) | (simp only [bcells_len, List.length_cons, List.length_nil]; omega))) ?_
      refine u rfl rfl (r_assignOwn rfl rfl rfl rfl) ?_
      refine jd ?_
      refine w3 3 4 2003 ?_
      refine J_ret ?_
      exact ⟨.inl rfl, _, rfl, .of (by simp [Tl.tx, bcells]), trivial⟩
def vaTl : Nat → Va → Tl
  | 0, _ => .unit
  | m + 1, v => if v.kind = 1 then .int v.num else if v.kind = 2 then .bool (decide (v.num = 1)) else if v.kind = 3 then .str v.str else if v.kind = 4 then .unit
    else if v.kind = 5 then .pair (vaTl m (vaK v.kids 0)) (vaTl m (vaK v.kids 1)) else if v.kind = 6 then .nil else if v.kind = 7 then .cons (vaTl m (vaK v.kids 0)) (vaTl m (vaK v.kids 1)) else .func
theorem vaTl_va : ∀ (m : Nat) (t : Tl), t.va.size ≤ m → vaTl m t.va = t
  | 0, t, h => absurd t.va.size_pos (by omega)
  | m + 1, .int n, _ => rfl
  | m + 1, .bool b, _ => by cases b <;> rfl
  | m + 1, .str s, _ => rfl
  | m + 1, .unit, _ => rfl
  | m + 1, .func, _ => rfl
  | m + 1, .nil, _ => rfl
  | m + 1, .pair a b, h => by
    simp only [Tl.va, Va.size, Va.sizes] at h
    show Tl.pair (vaTl m a.va) (vaTl m b.va) = _
    rw [vaTl_va m a (by omega), vaTl_va m b (by omega)]
  | m + 1, .cons a b, h => by
    simp only [Tl.va, Va.size, Va.sizes] at h
    show Tl.cons (vaTl m a.va) (vaTl m b.va) = _
    rw [vaTl_va m a (by omega), vaTl_va m b (by omega)]
def tlT (v : Va) : List UInt8 := if vTold v then (vaTl v.size v).tx false else []
theorem tlT_va {t : Tl} (h : t.ok) : tlT t.va = t.tx false := by
  unfold tlT
  rw [if_pos (told_va h), vaTl_va _ _ (Nat.le_refl _)]
theorem tlT_not {v : Va} (h : vTold v = false) : tlT v = [] := by unfold tlT; rw [h]; rfl
theorem kTval (v : Va) (hI : v.I) (hL : v.Light) (h : v.size ≤ 1000) : Con Tryz.prog 10 [.agg (vaX v)] [] (.c (.lit (str (tlT v)))) [] := by
  cases hv : vTold v with
  | false =>
    have ct := kTold v hL (by omega)
    rw [hv] at ct
    rw [tlT_not hv]
    refine con_intro rfl rfl (by kernel_rfl) (by kernel_rfl) ?_
    refine js ?_
    refine u rfl rfl (r_boxA (x := 2001) rfl rfl rfl rfl) ?_
    refine u rfl rfl asg ?_
    refine jd ?_
    refine w3 1 2 2001 ?_
    refine J_seq ?_
    refine js ?_
    refine u rfl rfl (lA 9) ?_
    refine u rfl rfl (cl (ct)) ?_
    refine u rfl rfl nt ?_
    refine jd ?_
    refine w4 1 2 5 2001 ?_
    refine J_condT rfl ?_
    refine js ?_
    refine u rfl rfl asg ?_
    refine jd ?_
    refine w3 1 2 2001 ?_
    refine J_ret ?_
    exact ⟨.inl rfl, _, rfl, .refl _, trivial⟩
  | true =>
    have ct := kTold v hL (by omega)
    rw [hv] at ct
    obtain ⟨t, hok, rfl⟩ := told_of hI hv
    rw [tlT_va hok]
    have hp := con_nil0 (kVput t.va.size t [] (by omega) (Nat.le_refl _) hok (by rw [List.length_nil]; omega))
    rw [List.nil_append] at hp
    refine con_intro rfl rfl (by kernel_rfl) (by kernel_rfl) ?_
    refine js ?_
    refine u rfl rfl (r_boxA (x := 2001) rfl rfl rfl rfl) ?_
    refine u rfl rfl asg ?_
    refine jd ?_
    refine w3 1 2 2001 ?_
    refine J_seq ?_
    refine js ?_
    refine u rfl rfl (lA 9) ?_
    refine u rfl rfl (cl (ct)) ?_
    refine u rfl rfl nt ?_
    refine jd ?_
    refine w4 1 2 5 2001 ?_
    refine J_condF rfl ?_
    refine J_skip ?_
    refine js ?_
    refine u rfl rfl (lA 9) ?_
    refine u rfl rfl (cl (hp)) ?_
    refine u rfl rfl (r_strOwn rfl rfl (by kernel_rfl) rfl) ?_
    refine u rfl rfl asg ?_
    refine jd ?_
    refine w1 2 ?_
    refine J_ret ?_
    exact ⟨.inl rfl, _, rfl, .refl _, trivial⟩

end Go.Proofs.YtccdnmjijakofaaGreatDoor
