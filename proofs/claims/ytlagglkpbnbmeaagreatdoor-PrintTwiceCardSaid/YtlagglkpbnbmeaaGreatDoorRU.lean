/- Bundle of Rt4 Rp Ln Ew7. -/
import Derived.Test.YtlagglkpbnbmeaaGreatDoorShC
import Derived.Test.YtlagglkpbnbmeaaGreatDoorShZ
import Derived.Test.YtlagglkpbnbmeaaGreatDoorRT
import Derived.Test.YtlagglkpbnbmeaaGreatDoorRi5
import Derived.Test.YtlagglkpbnbmeaaGreatDoorPT
import Derived.Test.YtlagglkpbnbmeaaGreatDoorEw

/- The page's own answer on right expressions. -/
namespace Go.Proofs.YtlagglkpbnbmeaaGreatDoor
open Go Go.RowKit
set_option maxRecDepth 100000
set_option maxHeartbeats 4000000
set_option linter.unusedVariables false
set_option linter.unusedSimpArgs false

inductive ExW : Ex → Prop
  | mk {k a b : Int} {nm arg : List UInt8} {m : Int} {s : List UInt8} {op : Int} {A B : Ty} {pats : List Pa} {kids : List Ex} : nm.length ≤ 300 → arg.length ≤ 300 → s.length ≤ 300 → A.size ≤ 401 → B.size ≤ 401 → pats.length ≤ 9223372036854775807 → kids.length ≤ 400 →
      (∀ p, p ∈ pats → PaK 400 p ∧ p.list.length ≤ 401) → (∀ e, e ∈ kids → ExW e) → ExW (.mk k a b nm arg m s op A B pats kids)
mutual
theorem hTy_sz : ∀ (t : Ty) (n : Int), 0 ≤ n → hTy t n ≤ 400 → n + t.size ≤ hTy t n + 1
  | .mk k m kids, n, h0, h => by
    rw [hTy] at h ⊢; have := hTys_sz kids n h0 h; rw [Ty.size]
    omega
theorem hTys_sz : ∀ (l : List Ty) (n : Int), 0 ≤ n → hTys l n ≤ 400 → n + Ty.sizes l ≤ hTys l n
  | [], n, _, _ => by rw [hTys, Ty.sizes]; omega
  | t :: r, n, h0, h => by
    have hb := hTy_b t (n + 1) (by omega); have hr := hTys_b r (hTy t (n + 1)) (by omega); rw [hTys] at h ⊢
    split at h
    · rename_i hn
      rw [if_pos hn]; have h1 := hTy_sz t (n + 1) (by omega) (by omega); have h2 := hTys_sz r (hTy t (n + 1)) (by omega) h; rw [Ty.sizes]
      omega
    omega
end
theorem pasList_len : ∀ l : List Pa, l.length ≤ (pasList l).length
  | [] => by simp
  | .mk k a b nm m s kids :: r => by
    have := pasList_len r; rw [pasList, List.length_append, Pa.list, List.length_cons, List.length_cons]
    omega
mutual
theorem hPa_sz : ∀ (p : Pa) (n : Int), 0 ≤ n → hPa p n ≤ 400 → PaK 400 p ∧ n + p.list.length ≤ hPa p n + 1
  | .mk k a b nm m s kids, n, h0, h => by
    rw [hPa] at h ⊢
    split at h
    · omega
    rename_i hc
    obtain ⟨h1, h2, h3⟩ := hPas_sz 1 kids n (by omega) (by omega) h0 h; rw [if_neg hc]; refine ⟨.mk (by omega) (by omega) (by have := h3 rfl; have := pasList_len kids; omega) h1, ?_⟩; rw [Pa.list, List.length_cons]; have := h3 rfl
    omega
theorem hPas_sz : ∀ (d : Int) (l : List Pa) (n : Int), 0 ≤ d → d ≤ 1 → 0 ≤ n → hPas d l n ≤ 400 → (∀ p, p ∈ l → PaK 400 p) ∧ (∀ p, p ∈ l → p.list.length ≤ 401) ∧ (d = 1 → n + (pasList l).length ≤ hPas d l n)
  | d, [], n, _, _, _, _ => by rw [hPas, pasList]; exact ⟨fun p hp => (by cases hp), fun p hp => (by cases hp), fun _ => by simp⟩
  | d, p :: r, n, hd0, hd1, h0, h => by
    have hb := hPa_b p (n + d) (by omega); have hr := hPas_b d r (hPa p (n + d)) hd0 hd1 (by omega); rw [hPas] at h ⊢
    split at h
    · rename_i hn
      rw [if_pos hn]; obtain ⟨h1, h2⟩ := hPa_sz p (n + d) (by omega) (by omega); obtain ⟨h3, h4, h5⟩ := hPas_sz d r (hPa p (n + d)) hd0 hd1 (by omega) h; refine ⟨fun q hq => ?_, fun q hq => ?_, fun e => ?_⟩
      · rcases List.mem_cons.1 hq with rfl | hq
        · exact h1
        exact h3 q hq
      · rcases List.mem_cons.1 hq with rfl | hq
        · omega
        exact h4 q hq
      have := h5 e; rw [pasList, List.length_append]
      omega
    omega
end
mutual
theorem hEx_w : ∀ (e : Ex) (n : Int), 0 ≤ n → ExL e → hEx e n ≤ 400 → ExW e ∧ n + 1 ≤ hEx e n
  | .mk k a b nm ag m s op A B pats kids, n, h0, hL, h => by
    obtain ⟨_, _, hpl, hkl, _, hk⟩ := exL_parts hL; rw [hEx] at h ⊢
    split at h
    · omega
    rename_i hc
    rw [if_neg hc]; have b1 := hTy_b A (n + 1) (by omega); have b2 := hTy_b B (hTy A (n + 1)) (by omega); have b3 := hPas_b 0 pats (hTy B (hTy A (n + 1))) (by omega) (by omega) (by omega); have b4 := hExs_b kids (hPas 0 pats (hTy B (hTy A (n + 1)))) (by omega); obtain ⟨h1, h2⟩ := hExs_w kids _ (by omega) hk h; have s1 := hTy_sz A (n + 1) (by omega) (by omega); have s2 := hTy_sz B (hTy A (n + 1)) (by omega) (by omega); obtain ⟨p1, p2, _⟩ := hPas_sz 0 pats (hTy B (hTy A (n + 1))) (by omega) (by omega) (by omega) (by omega); exact ⟨.mk (by omega) (by omega) (by omega) (by omega) (by omega) hpl (by omega) (fun p hp => ⟨p1 p hp, p2 p hp⟩) h1, by omega⟩
theorem hExs_w : ∀ (l : List Ex) (n : Int), 0 ≤ n → (∀ e, e ∈ l → ExL e) → hExs l n ≤ 400 → (∀ e, e ∈ l → ExW e) ∧ n + l.length ≤ hExs l n
  | [], n, _, _, _ => by rw [hExs]; exact ⟨fun e he => (by cases he), by simp⟩
  | e :: r, n, h0, hL, h => by
    have hb := hEx_b e n h0; have hr := hExs_b r (hEx e n) (by omega); rw [hExs] at h ⊢
    split at h
    · rename_i hn
      rw [if_pos hn]; obtain ⟨h1, h2⟩ := hEx_w e n h0 (hL e List.mem_cons_self) (by omega); obtain ⟨h3, h4⟩ := hExs_w r (hEx e n) (by omega) (fun x hx => hL x (List.mem_cons_of_mem _ hx)) h; refine ⟨fun x hx => ?_, by rw [List.length_cons]; omega⟩
      rcases List.mem_cons.1 hx with rfl | hx
      · exact h1
      exact h3 x hx
    omega
end

end Go.Proofs.YtlagglkpbnbmeaaGreatDoor

/- The plain law: the page's answer and the program's on one expression are the same. No program in sight. -/
namespace Go.Proofs.YtlagglkpbnbmeaaGreatDoor
open Go
set_option maxRecDepth 100000
set_option maxHeartbeats 1000000
set_option linter.unusedVariables false
set_option linter.unusedSimpArgs false

end Go.Proofs.YtlagglkpbnbmeaaGreatDoor

/- The plain law: the texts of light right expressions are bounded. No program in sight. -/
namespace Go.Proofs.YtlagglkpbnbmeaaGreatDoor
open Go
set_option maxRecDepth 100000
set_option maxHeartbeats 1000000
set_option linter.unusedVariables false
set_option linter.unusedSimpArgs false

theorem len_longS (s : List UInt8) : (mLong s).length ≤ 3 * s.length + 2 := by
  have h : (s.flatMap esc).length ≤ 3 * s.length := by
    induction s with
    | nil => simp
    | cons c r ih =>
      have hc : (esc c).length ≤ 3 := by unfold esc; split <;> simp
      rw [List.flatMap_cons, List.length_append, List.length_cons]
      omega
  rw [mLong, List.length_cons, List.length_append, List.length_cons, List.length_nil]
  omega
theorem len_name {s : List UInt8} (h : mName s = true) : s.length ≤ 32 := by
  unfold mName at h
  cases s with
  | nil => simp
  | cons c r =>
    simp only [Bool.and_eq_true, decide_eq_true_eq] at h
    exact h.1.1.1
theorem len_truth (n : Int) : (truthT n).length ≤ 5 := by unfold truthT; split <;> simp
theorem len_q (k : Int) (t : List UInt8) : (qT k t).length ≤ t.length + 2 := by unfold qT; split <;> simp
theorem len_kid (k : Int) (t : List UInt8) : (kidT k t).length ≤ t.length + 2 := by unfold kidT; split <;> simp
theorem len_sign (k : Int) : (signT k).length ≤ 4 := by
  unfold signT
  split
  · simp
  · split
    · simp
    · split
      · simp
      · split
        · simp
        · split
          · simp
          · split <;> simp
theorem len_list2 (k a b : Int) (nm : List UInt8) (n : Int) (s : List UInt8) (x y : Pa) : (Pa.mk k a b nm n s [x, y]).list.length = 1 + x.list.length + y.list.length := by
  rw [Pa.list, pasList, pasList, pasList]
  simp only [List.length_cons, List.length_append, List.length_nil]
  omega
theorem len_list0 (k a b : Int) (nm : List UInt8) (n : Int) (s : List UInt8) : (Pa.mk k a b nm n s []).list.length = 1 := by
  rw [Pa.list, pasList]; rfl
theorem len_pat {p : Pa} (h : RPa p) : (xPat p).length + 10 ≤ 1000 * p.list.length := by
  induction h with
  | any a b => rw [xPat_1, len_list0]; simp
  | name a b s h => rw [xPat_2, len_list0]; have := len_name h; omega
  | int a b n h => rw [xPat_3, len_list0]; have := mNum_len h.1 h.2; omega
  | bool a b n h => rw [xPat_4, len_list0]; have := len_truth n; omega
  | str a b s h => rw [xPat_5, len_list0]; have := len_longS s; omega
  | unit a b => rw [xPat_6, len_list0]; simp
  | nil a b => rw [xPat_8, len_list0]; simp
  | pair a b x y hx hy ihx ihy =>
    rw [xPat_7, len_list2]
    simp only [List.length_append, List.length_cons, List.length_nil]
    omega
  | cons a b x y hx hy ihx ihy =>
    rw [xPat_9, len_list2]
    have h1 := len_kid x.kind (xPat x)
    have h2 := len_kid y.kind (xPat y)
    simp only [List.length_append, List.length_cons, List.length_nil]
    omega
end Go.Proofs.YtlagglkpbnbmeaaGreatDoor

/- The wake-up call of layer 7. -/
namespace Go.Proofs.YtlagglkpbnbmeaaGreatDoor
open Go Go.RowKit
set_option maxRecDepth 100000
set_option maxHeartbeats 2000000
set_option linter.unusedVariables false

mutual
def pnB : Pa → Bool
  | .mk _ _ _ nm n s kids => decide (-9223372036854775808 ≤ n) && decide (n ≤ 9223372036854775807) && decide (nm.length ≤ 100000) && decide (s.length ≤ 100000) && decide (kids.length ≤ 100000) && pnsB kids
def pnsB : List Pa → Bool
  | [] => true
  | p :: r => pnB p && pnsB r
end
mutual
def enB : Ex → Bool
  | .mk _ _ _ nm ag n s _ A B pats kids => decide (-9223372036854775808 ≤ n) && decide (n ≤ 9223372036854775807) && decide (nm.length ≤ 100000) && decide (ag.length ≤ 100000) && decide (s.length ≤ 100000) && decide (A.size ≤ 100000) && decide (B.size ≤ 100000) && decide (pats.length ≤ 100000) && decide (kids.length ≤ 100000) && pnsB pats && ensB kids
def ensB : List Ex → Bool
  | [] => true
  | p :: r => enB p && ensB r
end
mutual
theorem pnB_ok : ∀ p : Pa, pnB p = true → PaN p ∧ PaK 100000 p
  | .mk k a b nm n s kids, h => by
    rw [pnB] at h
    simp only [Bool.and_eq_true, decide_eq_true_eq] at h
    obtain ⟨⟨⟨⟨⟨h1, h2⟩, h3⟩, h4⟩, h5⟩, h6⟩ := h
    have hk := pnsB_ok kids h6
    exact ⟨.mk ⟨h1, h2⟩ fun x hx => (hk x hx).1, .mk h3 h4 h5 fun x hx => (hk x hx).2⟩
theorem pnsB_ok : ∀ l : List Pa, pnsB l = true → ∀ p, p ∈ l → PaN p ∧ PaK 100000 p
  | [], _, p, hp => by cases hp
  | q :: r, h, p, hp => by
    rw [pnsB, Bool.and_eq_true] at h
    rcases List.mem_cons.1 hp with e | hp
    · rw [e]; exact pnB_ok q h.1
    · exact pnsB_ok r h.2 p hp
end
mutual
theorem enB_ok : ∀ p : Ex, enB p = true → ExN p ∧ ExK 100000 p
  | .mk k a b nm ag n s op A B pats kids, h => by
    rw [enB] at h
    simp only [Bool.and_eq_true, decide_eq_true_eq] at h
    obtain ⟨⟨⟨⟨⟨⟨⟨⟨⟨⟨h1, h2⟩, h3⟩, h4⟩, h5⟩, h6⟩, h7⟩, h8⟩, h9⟩, hp⟩, hk⟩ := h
    have hk := ensB_ok kids hk
    have hp := pnsB_ok pats hp
    exact ⟨.mk ⟨h1, h2⟩ (fun x hx => (hp x hx).1) fun x hx => (hk x hx).1, .mk h3 h4 h5 h6 h7 (Nat.le_trans h8 (by decide)) h9 (fun x hx => (hp x hx).2) fun x hx => (hk x hx).2⟩
theorem ensB_ok : ∀ l : List Ex, ensB l = true → ∀ p, p ∈ l → ExN p ∧ ExK 100000 p
  | [], _, p, hp => by cases hp
  | q :: r, h, p, hp => by
    rw [ensB, Bool.and_eq_true] at h
    rcases List.mem_cons.1 hp with e | hp
    · rw [e]; exact enB_ok q h.1
    · exact ensB_ok r h.2 p hp
end
def w7B : List UInt8 := [102, 117, 110, 32, 40, 120, 58, 105, 110, 116, 41, 45, 62, 109, 97, 116, 99, 104, 32, 120, 32, 119, 105, 116, 104, 32, 49, 58, 58, 95, 45, 62, 40, 120, 44, 126, 50, 41, 124, 121, 45, 62, 34, 97, 34, 32, 101, 110, 100]
def w7T : List UInt8 := [102, 117, 110, 32, 40, 120, 32, 58, 32, 105, 110, 116, 41, 32, 45, 62, 32, 109, 97, 116, 99, 104, 32, 120, 32, 119, 105, 116, 104, 32, 49, 32, 58, 58, 32, 95, 32, 45, 62, 32, 40, 120, 44, 32, 126, 50, 41, 32, 124, 32, 121, 32, 45, 62, 32, 34, 97, 34, 32, 101, 110, 100]
def w7N (a b : Int) : Ex := .mk 1 a b [120] [] 0 [] 0 noTy noTy [] []
def w7P : List Pa := [.mk 9 26 30 [] 0 [] [.mk 3 26 27 [] 1 [] [], .mk 1 29 30 [] 0 [] []], .mk 2 39 40 [121] 0 [] []]
def w7M : Ex := .mk 14 13 49 [] [] 0 [] 0 noTy noTy w7P [w7N 19 20, .mk 6 32 38 [] [] 0 [] 0 noTy noTy [] [w7N 33 34, .mk 2 35 37 [] [] (-2) [] 0 noTy noTy [] []], .mk 4 42 45 [] [] 0 [97] 0 noTy noTy [] []]
def w7E : Ex := .mk 9 0 49 [120] [] 0 [] 0 (.leaf 1) noTy [] [w7M]
theorem w7Parse : Con Tryz.prog 22 [.c (.sl 1 (bcells w7B))] [] (parD (.ok w7E)) [] := eParse w7B (by decide) (by kernel_rfl)
theorem w7Check : mCheck w7E = true := by kernel_rfl
theorem w7Par : paramT [120] (.leaf 1) = [40, 120, 32, 58, 32, 105, 110, 116, 41] := by rw [paramT, if_neg (by decide), mTxt_1]; rfl
theorem w7Long : xEx w7E = w7T := by
  rw [w7E, xEx_9, w7Par]
  kernel_rfl
theorem w7Text : Con Tryz.prog 11 [.agg (exX w7E)] [] (.tup [.c (.lit (str w7T)), .c (.lit (.int .i64 0))]) [] := by
  obtain ⟨h1, h2⟩ := enB_ok w7E (by kernel_rfl)
  have h := tText h2 h1 (fun _ => by rw [w7Long]; decide)
  rw [textOf, textErr, if_pos w7Check, if_pos w7Check, w7Long, if_pos (by decide), if_pos (by decide)] at h
  exact h
theorem kWakes7 : Con Tryz.prog 12 [] [] (.c (.lit (.bool true))) [] := by
  refine con_intro rfl rfl (by kernel_rfl) (by kernel_rfl) ?_
  refine js ?_
  refine u rfl rfl asg ?_
  refine jd ?_
  refine w1 0 ?_
  refine js ?_
  refine u rfl rfl (r_buildSliceOwn (e := 5) (sz := 1) (zs := [.int .u8 0]) (bcells w7B) rfl rfl (by kernel_rfl) (by kernel_rfl) rfl rfl rfl rfl rfl) ?_
  refine u rfl rfl (r_convConst rfl rfl (by kernel_rfl) rfl (by rfl)) ?_
  refine u rfl rfl (cl (w7Parse)) ?_
  refine u rfl rfl mv ?_
  refine u rfl rfl xt ?_
  refine u rfl rfl xt ?_
  refine u rfl rfl xt ?_
  refine u rfl rfl (r_alloc (x := 2001) (zs := zx) dx rfl rfl rfl (by kernel_rfl) kx) ?_
  refine u rfl rfl sA ?_
  refine u rfl rfl asg ?_
  refine u rfl rfl asg ?_
  refine jd ?_
  refine w4 0 1 3 2001 ?_
  refine js ?_
  refine u rfl rfl (lA 16) ?_
  refine u rfl rfl (cl (w7Text)) ?_
  refine u rfl rfl mv ?_
  refine u rfl rfl xt ?_
  refine u rfl rfl xt ?_
  refine u rfl rfl asg ?_
  refine u rfl rfl asg ?_
  refine jd ?_
  refine w4 0 3 4 5 ?_
  refine js ?_
  refine u rfl rfl mv ?_
  refine u rfl rfl (r_eqI rfl rfl rfl rfl) ?_
  refine u rfl rfl mv ?_
  refine u rfl rfl mv ?_
  refine u rfl rfl (r_eqI rfl rfl rfl rfl) ?_
  refine u rfl rfl pT ?_
  refine u rfl rfl mv ?_
  refine u rfl rfl mv ?_
  refine u rfl rfl ((r_eqS rfl rfl rfl rfl).cast (cast_b (b' := true) (by kernel_rfl))) ?_
  refine u rfl rfl pT ?_
  refine u rfl rfl asg ?_
  refine jd ?_
  refine w1 0 ?_
  refine J_ret ?_
  exact ⟨.inl rfl, _, rfl, .refl _, trivial⟩

end Go.Proofs.YtlagglkpbnbmeaaGreatDoor

