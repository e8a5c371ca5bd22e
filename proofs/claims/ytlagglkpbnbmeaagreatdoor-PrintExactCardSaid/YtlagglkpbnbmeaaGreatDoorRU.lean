/- Bundle of Rt4 Rp Ln Ew7. -/
import Derived.Test.YtlagglkpbnbmeaaGreatDoorShC
import Derived.Test.YtlagglkpbnbmeaaGreatDoorShZ
import Derived.Test.YtlagglkpbnbmeaaGreatDoorRT
import Derived.Test.YtlagglkpbnbmeaaGreatDoorRi5
import Derived.Test.YtlagglkpbnbmeaaGreatDoorPT
import Derived.Test.YtlagglkpbnbmeaaGreatDoorEw

/- The page's own answer on right expressions. -/
namespace Go.Proofs.YtlagglkpbnbmeaaGreatDoor
open Go Go.RowKit
set_option maxRecDepth 100000
set_option maxHeartbeats 4000000
set_option linter.unusedVariables false
set_option linter.unusedSimpArgs false

inductive ExW : Ex → Prop
  | mk {k a b : Int} {nm arg : List UInt8} {m : Int} {s : List UInt8} {op : Int} {A B : Ty} {pats : List Pa} {kids : List Ex} : nm.length ≤ 300 → arg.length ≤ 300 → s.length ≤ 300 → A.size ≤ 401 → B.size ≤ 401 → pats.length ≤ 9223372036854775807 → kids.length ≤ 400 →
      (∀ p, p ∈ pats → PaK 400 p ∧ p.list.length ≤ 401) → (∀ e, e ∈ kids → ExW e) → ExW (.mk k a b nm arg m s op A B pats kids)
theorem exW_parts {e : Ex} (h : ExW e) : e.nm.length ≤ 300 ∧ e.arg.length ≤ 300 ∧ e.s.length ≤ 300 ∧ e.A.size ≤ 401 ∧ e.B.size ≤ 401 ∧ e.pats.length ≤ 9223372036854775807 ∧ e.kids.length ≤ 400 ∧ (∀ p, p ∈ e.pats → PaK 400 p ∧ p.list.length ≤ 401) ∧ ∀ x, x ∈ e.kids → ExW x := by
  cases h with
  | mk h1 h2 h3 h4 h5 h6 h7 h8 h9 => exact ⟨h1, h2, h3, h4, h5, h6, h7, h8, h9⟩
def ownP (e : Ex) : Bool := ownE e && e.pats.all mCheckPat
def rightB (e : Ex) : Bool := e.list.all ownP
theorem rightB_eq (e : Ex) : rightB e = (ownE e && e.pats.all mCheckPat && e.kids.all rightB) := by
  cases e with
  | mk k a b nm arg m s op A B pats kids =>
    unfold rightB; rw [Ex.list, List.all_cons]
    congr 1
    induction kids with
    | nil => rfl
    | cons e r ih => rw [exsList, List.all_append, Ex.kids, List.all_cons, ih]; rfl
theorem nms_len (p : Pa) : (nms p).length ≤ p.list.length := by
  rw [nms, List.length_map]; exact List.length_filter_le _ _
theorem rRightStep {e : Ex} (hW : ExW e) (ih : ∀ x, x ∈ e.kids → Con Tryz.prog 10 [.agg (exX x)] [] (.c (.lit (.bool (rightB x)))) []) : Con Tryz.prog 10 [.agg (exX e)] [] (.c (.lit (.bool (rightB e)))) [] := by
  obtain ⟨h1, h2, h3, h4, h5, hp6, h7, h8, _⟩ := exW_parts hW; have hl := pasD_len3 e.pats; have hlk := exsD_len e.kids; have hO := rOwn e (by omega) (by omega) (by omega) (by omega); rw [rightB_eq]; refine gg [38,5,22,2001,1,0,9,3,2001,2,1,31,5,20,16] ?_; refine JR.runC rfl rfl (cl (hO)) rfl ?_ ?_
  · intro h6; refine gg [15,0,9,4,2001,7,2,1,8,34,31,5,1,0,9,4,2001,3,2,1,35] ?_; refine J_loopF (α := { i : Nat // i ≤ e.pats.length ∧ e.pats.all mCheckPat = (e.pats.drop i).all mCheckPat }) (fun p => [(3, .c (.lit (.int .i64 (p.1 : Int))))]) [(1, _), (2, _), (2001, _)] (fun p => e.pats.length - p.1) ⟨0, Nat.zero_le _, rfl⟩ ⟨rfl, rfl, rfl, rfl, trivial⟩ ?_; rintro ⟨i, hi, hI⟩; dsimp only; refine gg [31,5,2,6,14,1,7,18] ?_; refine bL ?_ ?_
    · intro h12; obtain ⟨x, hx⟩ := get_some5 (l := e.pats) (i := i) (by omega); obtain ⟨g1, g2⟩ := h8 x (List.mem_of_getElem? hx); have hc := rRightPat (n := 400) (by decide) g1 (by have := nms_len x; omega); refine gg [0,9,9,2001,12,11,10,9,8,3,2,1,32,34,31,35,5,6,14,1,7,2] ?_; refine u rfl rfl (r_indexAddr (e := 40) (sz := 7) rfl rfl (by kernel_rfl) rfl rfl (by omega) (pas_at3 hx)) ?_; refine gg [21,7] ?_; refine JR.runC rfl rfl (cl (hc)) rfl ?_ ?_
      · intro h20; refine gg [15,0,9,16,2001,21,20,19,18,17,16,15,12,11,10,9,8,3,2,1,8,34,37,2,27,1,0] ?_; refine ⟨⟨i + 1, by omega, by rw [hI, drop_get5 hx, List.all_cons, h20, Bool.true_and]⟩, by simp only; omega, rfl, rfl, rfl, rfl, trivial⟩
      intro h20; refine gg [15,0,9,16,2001,21,20,19,18,17,16,15,12,11,10,9,8,3,2,1,32,5,1,0,9,16,2001,21,20,19,18,17,16,15,12,11,10,9,8,3,2,1,33] ?_; refine ⟨.inl rfl, _, rfl, .ofB ?_, trivial⟩; rw [hI, drop_get5 hx, List.all_cons, h20, Bool.false_and, Bool.and_false, Bool.false_and]
    intro h12; have hP : e.pats.all mCheckPat = true := by rw [hI, List.drop_eq_nil_of_le (by omega)]; rfl
    refine gg [0,9,9,2001,12,11,10,9,8,3,2,1,8,36,31,5,1,0,9,4,2001,4,2,1,35] ?_; refine J_loopF (α := { i : Nat // i ≤ e.kids.length ∧ e.kids.all rightB = (e.kids.drop i).all rightB }) (fun p => [(4, .c (.lit (.int .i64 (p.1 : Int))))]) [(1, _), (2, _), (2001, _)] (fun p => e.kids.length - p.1) ⟨0, Nat.zero_le _, rfl⟩ ⟨rfl, rfl, rfl, rfl, trivial⟩ ?_; rintro ⟨i, hi, hI⟩; dsimp only; refine gg [31,5,2,6,15,1,7,18] ?_; refine bL ?_ ?_
    · intro h26; obtain ⟨x, hx⟩ := get_some5 (l := e.kids) (i := i) (by omega); have hc := ih x (List.mem_of_getElem? hx); refine gg [0,9,9,2001,26,25,24,23,22,4,2,1,32,34,31,35,5,6,15,1,7,2] ?_; refine u rfl rfl (r_indexAddr (e := 30) (sz := 16) rfl rfl (by kernel_rfl) rfl rfl (by omega) (exs_at3 hx)) ?_; refine gg [21,16] ?_; refine JR.runC rfl rfl (cl (hc)) rfl ?_ ?_
      · intro h34; refine gg [15,0,9,16,2001,35,34,33,32,31,30,29,26,25,24,23,22,4,2,1,8,34,37,2,27,1,0] ?_; refine ⟨⟨i + 1, by omega, by rw [hI, drop_get5 hx, List.all_cons, h34, Bool.true_and]⟩, by simp only; omega, rfl, rfl, rfl, rfl, trivial⟩
      intro h34; refine gg [15,0,9,16,2001,35,34,33,32,31,30,29,26,25,24,23,22,4,2,1,32,5,1,0,9,16,2001,35,34,33,32,31,30,29,26,25,24,23,22,4,2,1,33] ?_; refine ⟨.inl rfl, _, rfl, .ofB ?_, trivial⟩; rw [hI, drop_get5 hx, List.all_cons, h34, Bool.false_and, Bool.and_false]
    intro h26; refine gg [0,9,9,2001,26,25,24,23,22,4,2,1,8,36,5,1,0,9,1,2,33] ?_; refine ⟨.inl rfl, _, rfl, .ofB ?_, trivial⟩; rw [hI, hP, h6, List.drop_eq_nil_of_le (by omega)]
    rfl
  intro h6; refine gg [15,0,9,4,2001,7,2,1,32,5,1,0,9,3,2001,2,1,33] ?_; refine ⟨.inl rfl, _, rfl, .ofB ?_, trivial⟩; rw [h6, Bool.false_and, Bool.false_and]

theorem rRight {e : Ex} (h : ExW e) : Con Tryz.prog 10 [.agg (exX e)] [] (.c (.lit (.bool (rightB e)))) [] := by
  induction h with
  | mk h1 h2 h3 h4 h5 h6 h7 h8 h9 ih => exact rRightStep (.mk h1 h2 h3 h4 h5 h6 h7 h8 h9) ih

mutual
theorem hTy_sz : ∀ (t : Ty) (n : Int), 0 ≤ n → hTy t n ≤ 400 → n + t.size ≤ hTy t n + 1
  | .mk k m kids, n, h0, h => by
    rw [hTy] at h ⊢; have := hTys_sz kids n h0 h; rw [Ty.size]
    omega
theorem hTys_sz : ∀ (l : List Ty) (n : Int), 0 ≤ n → hTys l n ≤ 400 → n + Ty.sizes l ≤ hTys l n
  | [], n, _, _ => by rw [hTys, Ty.sizes]; omega
  | t :: r, n, h0, h => by
    have hb := hTy_b t (n + 1) (by omega); have hr := hTys_b r (hTy t (n + 1)) (by omega); rw [hTys] at h ⊢
    split at h
    · rename_i hn
      rw [if_pos hn]; have h1 := hTy_sz t (n + 1) (by omega) (by omega); have h2 := hTys_sz r (hTy t (n + 1)) (by omega) h; rw [Ty.sizes]
      omega
    omega
end
theorem pasList_len : ∀ l : List Pa, l.length ≤ (pasList l).length
  | [] => by simp
  | .mk k a b nm m s kids :: r => by
    have := pasList_len r; rw [pasList, List.length_append, Pa.list, List.length_cons, List.length_cons]
    omega
mutual
theorem hPa_sz : ∀ (p : Pa) (n : Int), 0 ≤ n → hPa p n ≤ 400 → PaK 400 p ∧ n + p.list.length ≤ hPa p n + 1
  | .mk k a b nm m s kids, n, h0, h => by
    rw [hPa] at h ⊢
    split at h
    · omega
    rename_i hc
    obtain ⟨h1, h2, h3⟩ := hPas_sz 1 kids n (by omega) (by omega) h0 h; rw [if_neg hc]; refine ⟨.mk (by omega) (by omega) (by have := h3 rfl; have := pasList_len kids; omega) h1, ?_⟩; rw [Pa.list, List.length_cons]; have := h3 rfl
    omega
theorem hPas_sz : ∀ (d : Int) (l : List Pa) (n : Int), 0 ≤ d → d ≤ 1 → 0 ≤ n → hPas d l n ≤ 400 → (∀ p, p ∈ l → PaK 400 p) ∧ (∀ p, p ∈ l → p.list.length ≤ 401) ∧ (d = 1 → n + (pasList l).length ≤ hPas d l n)
  | d, [], n, _, _, _, _ => by rw [hPas, pasList]; exact ⟨fun p hp => (by cases hp), fun p hp => (by cases hp), fun _ => by simp⟩
  | d, p :: r, n, hd0, hd1, h0, h => by
    have hb := hPa_b p (n + d) (by omega); have hr := hPas_b d r (hPa p (n + d)) hd0 hd1 (by omega); rw [hPas] at h ⊢
    split at h
    · rename_i hn
      rw [if_pos hn]; obtain ⟨h1, h2⟩ := hPa_sz p (n + d) (by omega) (by omega); obtain ⟨h3, h4, h5⟩ := hPas_sz d r (hPa p (n + d)) hd0 hd1 (by omega) h; refine ⟨fun q hq => ?_, fun q hq => ?_, fun e => ?_⟩
      · rcases List.mem_cons.1 hq with rfl | hq
        · exact h1
        exact h3 q hq
      · rcases List.mem_cons.1 hq with rfl | hq
        · omega
        exact h4 q hq
      have := h5 e; rw [pasList, List.length_append]
      omega
    omega
end
mutual
theorem hEx_w : ∀ (e : Ex) (n : Int), 0 ≤ n → ExL e → hEx e n ≤ 400 → ExW e ∧ n + 1 ≤ hEx e n
  | .mk k a b nm ag m s op A B pats kids, n, h0, hL, h => by
    obtain ⟨_, _, hpl, hkl, _, hk⟩ := exL_parts hL; rw [hEx] at h ⊢
    split at h
    · omega
    rename_i hc
    rw [if_neg hc]; have b1 := hTy_b A (n + 1) (by omega); have b2 := hTy_b B (hTy A (n + 1)) (by omega); have b3 := hPas_b 0 pats (hTy B (hTy A (n + 1))) (by omega) (by omega) (by omega); have b4 := hExs_b kids (hPas 0 pats (hTy B (hTy A (n + 1)))) (by omega); obtain ⟨h1, h2⟩ := hExs_w kids _ (by omega) hk h; have s1 := hTy_sz A (n + 1) (by omega) (by omega); have s2 := hTy_sz B (hTy A (n + 1)) (by omega) (by omega); obtain ⟨p1, p2, _⟩ := hPas_sz 0 pats (hTy B (hTy A (n + 1))) (by omega) (by omega) (by omega) (by omega); exact ⟨.mk (by omega) (by omega) (by omega) (by omega) (by omega) hpl (by omega) (fun p hp => ⟨p1 p hp, p2 p hp⟩) h1, by omega⟩
theorem hExs_w : ∀ (l : List Ex) (n : Int), 0 ≤ n → (∀ e, e ∈ l → ExL e) → hExs l n ≤ 400 → (∀ e, e ∈ l → ExW e) ∧ n + l.length ≤ hExs l n
  | [], n, _, _, _ => by rw [hExs]; exact ⟨fun e he => (by cases he), by simp⟩
  | e :: r, n, h0, hL, h => by
    have hb := hEx_b e n h0; have hr := hExs_b r (hEx e n) (by omega); rw [hExs] at h ⊢
    split at h
    · rename_i hn
      rw [if_pos hn]; obtain ⟨h1, h2⟩ := hEx_w e n h0 (hL e List.mem_cons_self) (by omega); obtain ⟨h3, h4⟩ := hExs_w r (hEx e n) (by omega) (fun x hx => hL x (List.mem_cons_of_mem _ hx)) h; refine ⟨fun x hx => ?_, by rw [List.length_cons]; omega⟩
      rcases List.mem_cons.1 hx with rfl | hx
      · exact h1
      exact h3 x hx
    omega
end

end Go.Proofs.YtlagglkpbnbmeaaGreatDoor

/- The plain law: the page's answer and the program's on one expression are the same. No program in sight. -/
namespace Go.Proofs.YtlagglkpbnbmeaaGreatDoor
open Go
set_option maxRecDepth 100000
set_option maxHeartbeats 1000000
set_option linter.unusedVariables false
set_option linter.unusedSimpArgs false

theorem same_none (t : Ty) : mSame t noTy = mNone t := by
  rw [mSame_eq]
  unfold mNone
  have : mSames t.kids [] = decide (t.kids.length = 0) := by
    cases t.kids with
    | nil => rfl
    | cons a r => rfl
  show (decide (t.kind = 0) && decide (t.num = 0) && mSames t.kids []) = _
  rw [this]
theorem note_may (t : Ty) : mNote t true = (mNone t || mClosed t) := by
  unfold mNote mClosed
  cases mNone t <;> rfl
theorem note_not (t : Ty) : mNote t false = (!mNone t && mClosed t) := by
  unfold mNote mClosed
  cases mNone t <;> rfl
theorem k2_iff (e : Ex) (s : Shp) : k2 e s = false ↔ (s.ok = true ∧ (e.kids.length : Int) = s.kids ∧ (e.kind = 14 ∨ e.pats.length = 0)) := by
  unfold k2
  simp only [Bool.or_eq_false_iff, Bool.and_eq_false_iff, decide_eq_false_iff_not, Bool.not_eq_false', Decidable.not_not]
  constructor
  · rintro ⟨⟨h1, h2⟩, h3⟩; exact ⟨h1, h2, by omega⟩
  · rintro ⟨h1, h2, h3⟩; exact ⟨⟨h1, h2⟩, by omega⟩
theorem k4_iff (e : Ex) (s : Shp) : k4 e s = false ↔ (if s.name = true then mName e.nm = true else e.nm = []) := by
  unfold k4
  cases s.name <;> cases mName e.nm <;> simp
theorem k6_iff (e : Ex) (s : Shp) : k6 e s = false ↔ (if s.arg = true then mName e.arg = true else e.arg = []) := by
  unfold k6
  cases s.arg <;> cases mName e.arg <;> simp
theorem k8_iff (e : Ex) (s : Shp) : k8 e s = false ↔ ((s.n = true ∨ e.n = 0) ∧ (e.kind = 3 → e.n = 0 ∨ e.n = 1)) := by
  unfold k8
  simp only [Bool.or_eq_false_iff, Bool.and_eq_false_iff, decide_eq_false_iff_not, Bool.not_eq_false', Decidable.not_not]
  constructor
  · rintro ⟨h1, h2⟩; exact ⟨h1, by omega⟩
  · rintro ⟨h1, h2⟩; exact ⟨h1, by omega⟩
theorem k10_iff (e : Ex) (s : Shp) : k10 e s = false ↔ ((s.s = true ∨ e.s = []) ∧ e.s.length ≤ 200) := by
  unfold k10
  simp only [Bool.or_eq_false_iff, Bool.and_eq_false_iff, decide_eq_false_iff_not, Bool.not_eq_false', Decidable.not_not]
  constructor
  · rintro ⟨h1, h2⟩; exact ⟨h1, by omega⟩
  · rintro ⟨h1, h2⟩; exact ⟨h1, by omega⟩
theorem k12_iff (e : Ex) (s : Shp) : k12 e s = false ↔ (if s.op = true then 1 ≤ e.op ∧ e.op ≤ 7 else e.op = 0) := by
  unfold k12
  cases s.op
  · simp
  · simp only [if_true, Bool.not_true, Bool.true_and, Bool.false_and, Bool.or_false, Bool.or_eq_false_iff, decide_eq_false_iff_not]; omega
theorem k14_iff (e : Ex) (s : Shp) : k14 e s = false ↔ ((mNone e.A = true ∨ (s.a = true ∧ mClosed e.A = true)) ∧ (s.must = true → mNone e.A = false)) := by
  unfold k14
  cases s.a <;> cases s.must <;> cases mNone e.A <;> cases mClosed e.A <;> simp
theorem k16_iff (e : Ex) (s : Shp) : k16 e s = false ↔ (mNone e.B = true ∨ (s.b = true ∧ mClosed e.B = true)) := by
  unfold k16
  cases s.b <;> cases mNone e.B <;> cases mClosed e.B <;> simp
theorem oneE_iff (e : Ex) (s : Shp) (hs : shOf e = s) : oneE e = true ↔ (k2 e s = false ∧ k4 e s = false ∧ k6 e s = false ∧ k8 e s = false ∧ k10 e s = false ∧ k12 e s = false ∧ k14 e s = false ∧ k16 e s = false ∧ e.pats.all mCheckPat = true) := by
  unfold oneE
  rw [hs]
  simp only [Bool.and_eq_true, Bool.not_eq_true', and_assoc]
theorem o2_iff (e f : Ex) (hf : fldE e = f) : o2 e = false ↔ (fldK e = (e.kids.length : Int) ∧ e.nm = f.nm ∧ e.arg = f.arg ∧ e.n = f.n ∧ e.s = f.s ∧ e.op = f.op ∧ e.pats.length = f.pats.length) := by
  unfold o2
  rw [hf]
  simp only [Bool.or_eq_false_iff, decide_eq_false_iff_not, Decidable.not_not, and_assoc, ne_eq]
  constructor
  · rintro ⟨h1, h2, h3, h4, h5, h6, h7⟩; exact ⟨h1, h2, h3, h4, h5, h6, by omega⟩
  · rintro ⟨h1, h2, h3, h4, h5, h6, h7⟩; exact ⟨h1, h2, h3, h4, h5, h6, by omega⟩
theorem o4_iff (e f : Ex) (hf : fldE e = f) : o4 e = false ↔ (mSame e.A f.A = true ∧ mSame e.B f.B = true) := by
  unfold o4
  rw [hf]
  simp
theorem o6_iff (e : Ex) (b : Bool) (hb : decide (e.kind ≠ 15) = b) : o6 e = false ↔ (mNote e.A b = true ∧ (mNone e.B = true ∨ mClosed e.B = true)) := by
  unfold o6
  rw [hb, note_may e.B]
  cases mNote e.A b <;> cases mNone e.B <;> cases mClosed e.B <;> simp
theorem ownP_iff (e : Ex) : ownP e = true ↔ (o2 e = false ∧ o4 e = false ∧ o6 e = false ∧ o8 e = true ∧ e.pats.all mCheckPat = true) := by
  unfold ownP ownE
  simp only [Bool.and_eq_true, Bool.not_eq_true', and_assoc]
theorem o8_1 (e : Ex) (h : e.kind = 1) : o8 e = true ↔ (mName e.nm = true) := by
  unfold o8
  simp [h]
theorem o8_2 (e : Ex) (h : e.kind = 2) : o8 e = true ↔ (True) := by
  unfold o8
  simp [h]
theorem o8_3 (e : Ex) (h : e.kind = 3) : o8 e = true ↔ (e.n = 0 ∨ e.n = 1) := by
  unfold o8
  simp [h]
theorem o8_4 (e : Ex) (h : e.kind = 4) : o8 e = true ↔ (e.s.length ≤ 200) := by
  unfold o8
  simp [h]
  omega
theorem o8_5 (e : Ex) (h : e.kind = 5) : o8 e = true ↔ (True) := by
  unfold o8
  simp [h]
theorem o8_7 (e : Ex) (h : e.kind = 7) : o8 e = true ↔ (True) := by
  unfold o8
  simp [h]
theorem o8_6 (e : Ex) (h : e.kind = 6) : o8 e = true ↔ (True) := by
  unfold o8
  simp [h]
theorem o8_8 (e : Ex) (h : e.kind = 8) : o8 e = true ↔ (True) := by
  unfold o8
  simp [h]
theorem o8_10 (e : Ex) (h : e.kind = 10) : o8 e = true ↔ (True) := by
  unfold o8
  simp [h]
theorem o8_9 (e : Ex) (h : e.kind = 9) : o8 e = true ↔ (mName e.nm = true) := by
  unfold o8
  simp [h]
theorem o8_11 (e : Ex) (h : e.kind = 11) : o8 e = true ↔ (mName e.nm = true) := by
  unfold o8
  simp [h]
theorem o8_12 (e : Ex) (h : e.kind = 12) : o8 e = true ↔ (mName e.nm = true ∧ mName e.arg = true) := by
  unfold o8
  simp [h]
theorem o8_13 (e : Ex) (h : e.kind = 13) : o8 e = true ↔ (True) := by
  unfold o8
  simp [h]
theorem o8_14 (e : Ex) (h : e.kind = 14) : o8 e = true ↔ (0 < e.pats.length) := by
  unfold o8
  simp [h]
theorem o8_15 (e : Ex) (h : e.kind = 15) : o8 e = true ↔ (True) := by
  unfold o8
  simp [h]
theorem o8_16 (e : Ex) (h : e.kind = 16) : o8 e = true ↔ (1 ≤ e.op ∧ e.op ≤ 7) := by
  unfold o8
  simp [h]
theorem own_one {k a b : Int} {nm arg : List UInt8} {n : Int} {s : List UInt8} {op : Int} {A B : Ty} {pats : List Pa} {kids : List Ex} (hp : pats.length ≤ 9223372036854775807) (hk : kids.length ≤ 1000000) : ownP (.mk k a b nm arg n s op A B pats kids) = oneE (.mk k a b nm arg n s op A B pats kids) := by
  have sA := same_none A
  have sB := same_none B
  have rA := mSame_refl A
  have rB := mSame_refl B
  have mA := note_may A
  have mB := note_may B
  have nA := note_not A
  by_cases q1 : k = 1
  · subst q1
    have hs : shOf (.mk 1 a b nm arg n s op A B pats kids) = ⟨true, false, false, false, false, false, false, false, 0, true⟩ := rfl
    have hf : fldE (.mk 1 a b nm arg n s op A B pats kids) = .mk 1 0 0 nm [] 0 [] 0 noTy noTy [] [] := rfl
    have hq : fldK (.mk 1 a b nm arg n s op A B pats kids) = 0 := rfl
    have ho8 := o8_1 (.mk 1 a b nm arg n s op A B pats kids) rfl
    rw [Bool.eq_iff_iff, ownP_iff, oneE_iff _ _ hs, o2_iff _ _ hf, o4_iff _ _ hf, o6_iff _ true rfl, k2_iff, k4_iff, k6_iff, k8_iff, k10_iff, k12_iff, k14_iff, k16_iff, hq, ho8]
    simp only [Ex.kind, Ex.nm, Ex.arg, Ex.n, Ex.s, Ex.op, Ex.A, Ex.B, Ex.pats, Ex.kids, sA, sB, rA, rB, mA, nA, Bool.or_eq_true, Bool.and_eq_true, Bool.not_eq_true', decide_eq_true_eq, if_true, if_false, Bool.false_eq_true]
    constructor
    · intro h
      simp_all
    · intro h
      simp_all
  by_cases q2 : k = 2
  · subst q2
    have hs : shOf (.mk 2 a b nm arg n s op A B pats kids) = ⟨false, false, true, false, false, false, false, false, 0, true⟩ := rfl
    have hf : fldE (.mk 2 a b nm arg n s op A B pats kids) = .mk 2 0 0 [] [] n [] 0 noTy noTy [] [] := rfl
    have hq : fldK (.mk 2 a b nm arg n s op A B pats kids) = 0 := rfl
    have ho8 := o8_2 (.mk 2 a b nm arg n s op A B pats kids) rfl
    rw [Bool.eq_iff_iff, ownP_iff, oneE_iff _ _ hs, o2_iff _ _ hf, o4_iff _ _ hf, o6_iff _ true rfl, k2_iff, k4_iff, k6_iff, k8_iff, k10_iff, k12_iff, k14_iff, k16_iff, hq, ho8]
    simp only [Ex.kind, Ex.nm, Ex.arg, Ex.n, Ex.s, Ex.op, Ex.A, Ex.B, Ex.pats, Ex.kids, sA, sB, rA, rB, mA, nA, Bool.or_eq_true, Bool.and_eq_true, Bool.not_eq_true', decide_eq_true_eq, if_true, if_false, Bool.false_eq_true]
    constructor
    · intro h
      simp_all
    · intro h
      simp_all
  by_cases q3 : k = 3
  · subst q3
    have hs : shOf (.mk 3 a b nm arg n s op A B pats kids) = ⟨false, false, true, false, false, false, false, false, 0, true⟩ := rfl
    have hf : fldE (.mk 3 a b nm arg n s op A B pats kids) = .mk 3 0 0 [] [] n [] 0 noTy noTy [] [] := rfl
    have hq : fldK (.mk 3 a b nm arg n s op A B pats kids) = 0 := rfl
    have ho8 := o8_3 (.mk 3 a b nm arg n s op A B pats kids) rfl
    rw [Bool.eq_iff_iff, ownP_iff, oneE_iff _ _ hs, o2_iff _ _ hf, o4_iff _ _ hf, o6_iff _ true rfl, k2_iff, k4_iff, k6_iff, k8_iff, k10_iff, k12_iff, k14_iff, k16_iff, hq, ho8]
    simp only [Ex.kind, Ex.nm, Ex.arg, Ex.n, Ex.s, Ex.op, Ex.A, Ex.B, Ex.pats, Ex.kids, sA, sB, rA, rB, mA, nA, Bool.or_eq_true, Bool.and_eq_true, Bool.not_eq_true', decide_eq_true_eq, if_true, if_false, Bool.false_eq_true]
    constructor
    · intro h
      simp_all <;> omega
    · intro h
      simp_all <;> omega
  by_cases q4 : k = 4
  · subst q4
    have hs : shOf (.mk 4 a b nm arg n s op A B pats kids) = ⟨false, false, false, true, false, false, false, false, 0, true⟩ := rfl
    have hf : fldE (.mk 4 a b nm arg n s op A B pats kids) = .mk 4 0 0 [] [] 0 s 0 noTy noTy [] [] := rfl
    have hq : fldK (.mk 4 a b nm arg n s op A B pats kids) = 0 := rfl
    have ho8 := o8_4 (.mk 4 a b nm arg n s op A B pats kids) rfl
    rw [Bool.eq_iff_iff, ownP_iff, oneE_iff _ _ hs, o2_iff _ _ hf, o4_iff _ _ hf, o6_iff _ true rfl, k2_iff, k4_iff, k6_iff, k8_iff, k10_iff, k12_iff, k14_iff, k16_iff, hq, ho8]
    simp only [Ex.kind, Ex.nm, Ex.arg, Ex.n, Ex.s, Ex.op, Ex.A, Ex.B, Ex.pats, Ex.kids, sA, sB, rA, rB, mA, nA, Bool.or_eq_true, Bool.and_eq_true, Bool.not_eq_true', decide_eq_true_eq, if_true, if_false, Bool.false_eq_true]
    constructor
    · intro h
      simp_all <;> omega
    · intro h
      simp_all <;> omega
  by_cases q5 : k = 5
  · subst q5
    have hs : shOf (.mk 5 a b nm arg n s op A B pats kids) = ⟨false, false, false, false, false, false, false, false, 0, true⟩ := rfl
    have hf : fldE (.mk 5 a b nm arg n s op A B pats kids) = .mk 5 0 0 [] [] 0 [] 0 noTy noTy [] [] := rfl
    have hq : fldK (.mk 5 a b nm arg n s op A B pats kids) = 0 := rfl
    have ho8 := o8_5 (.mk 5 a b nm arg n s op A B pats kids) rfl
    rw [Bool.eq_iff_iff, ownP_iff, oneE_iff _ _ hs, o2_iff _ _ hf, o4_iff _ _ hf, o6_iff _ true rfl, k2_iff, k4_iff, k6_iff, k8_iff, k10_iff, k12_iff, k14_iff, k16_iff, hq, ho8]
    simp only [Ex.kind, Ex.nm, Ex.arg, Ex.n, Ex.s, Ex.op, Ex.A, Ex.B, Ex.pats, Ex.kids, sA, sB, rA, rB, mA, nA, Bool.or_eq_true, Bool.and_eq_true, Bool.not_eq_true', decide_eq_true_eq, if_true, if_false, Bool.false_eq_true]
    constructor
    · intro h
      simp_all
    · intro h
      simp_all
  by_cases q7 : k = 7
  · subst q7
    have hs : shOf (.mk 7 a b nm arg n s op A B pats kids) = ⟨false, false, false, false, false, false, false, false, 0, true⟩ := rfl
    have hf : fldE (.mk 7 a b nm arg n s op A B pats kids) = .mk 7 0 0 [] [] 0 [] 0 noTy noTy [] [] := rfl
    have hq : fldK (.mk 7 a b nm arg n s op A B pats kids) = 0 := rfl
    have ho8 := o8_7 (.mk 7 a b nm arg n s op A B pats kids) rfl
    rw [Bool.eq_iff_iff, ownP_iff, oneE_iff _ _ hs, o2_iff _ _ hf, o4_iff _ _ hf, o6_iff _ true rfl, k2_iff, k4_iff, k6_iff, k8_iff, k10_iff, k12_iff, k14_iff, k16_iff, hq, ho8]
    simp only [Ex.kind, Ex.nm, Ex.arg, Ex.n, Ex.s, Ex.op, Ex.A, Ex.B, Ex.pats, Ex.kids, sA, sB, rA, rB, mA, nA, Bool.or_eq_true, Bool.and_eq_true, Bool.not_eq_true', decide_eq_true_eq, if_true, if_false, Bool.false_eq_true]
    constructor
    · intro h
      simp_all
    · intro h
      simp_all
  by_cases q6 : k = 6
  · subst q6
    have hs : shOf (.mk 6 a b nm arg n s op A B pats kids) = ⟨false, false, false, false, false, false, false, false, 2, true⟩ := rfl
    have hf : fldE (.mk 6 a b nm arg n s op A B pats kids) = .mk 6 0 0 [] [] 0 [] 0 noTy noTy [] [] := rfl
    have hq : fldK (.mk 6 a b nm arg n s op A B pats kids) = 2 := rfl
    have ho8 := o8_6 (.mk 6 a b nm arg n s op A B pats kids) rfl
    rw [Bool.eq_iff_iff, ownP_iff, oneE_iff _ _ hs, o2_iff _ _ hf, o4_iff _ _ hf, o6_iff _ true rfl, k2_iff, k4_iff, k6_iff, k8_iff, k10_iff, k12_iff, k14_iff, k16_iff, hq, ho8]
    simp only [Ex.kind, Ex.nm, Ex.arg, Ex.n, Ex.s, Ex.op, Ex.A, Ex.B, Ex.pats, Ex.kids, sA, sB, rA, rB, mA, nA, Bool.or_eq_true, Bool.and_eq_true, Bool.not_eq_true', decide_eq_true_eq, if_true, if_false, Bool.false_eq_true]
    constructor
    · intro h
      simp_all
    · intro h
      simp_all
  by_cases q8 : k = 8
  · subst q8
    have hs : shOf (.mk 8 a b nm arg n s op A B pats kids) = ⟨false, false, false, false, false, false, false, false, 2, true⟩ := rfl
    have hf : fldE (.mk 8 a b nm arg n s op A B pats kids) = .mk 8 0 0 [] [] 0 [] 0 noTy noTy [] [] := rfl
    have hq : fldK (.mk 8 a b nm arg n s op A B pats kids) = 2 := rfl
    have ho8 := o8_8 (.mk 8 a b nm arg n s op A B pats kids) rfl
    rw [Bool.eq_iff_iff, ownP_iff, oneE_iff _ _ hs, o2_iff _ _ hf, o4_iff _ _ hf, o6_iff _ true rfl, k2_iff, k4_iff, k6_iff, k8_iff, k10_iff, k12_iff, k14_iff, k16_iff, hq, ho8]
    simp only [Ex.kind, Ex.nm, Ex.arg, Ex.n, Ex.s, Ex.op, Ex.A, Ex.B, Ex.pats, Ex.kids, sA, sB, rA, rB, mA, nA, Bool.or_eq_true, Bool.and_eq_true, Bool.not_eq_true', decide_eq_true_eq, if_true, if_false, Bool.false_eq_true]
    constructor
    · intro h
      simp_all
    · intro h
      simp_all
  by_cases q10 : k = 10
  · subst q10
    have hs : shOf (.mk 10 a b nm arg n s op A B pats kids) = ⟨false, false, false, false, false, false, false, false, 2, true⟩ := rfl
    have hf : fldE (.mk 10 a b nm arg n s op A B pats kids) = .mk 10 0 0 [] [] 0 [] 0 noTy noTy [] [] := rfl
    have hq : fldK (.mk 10 a b nm arg n s op A B pats kids) = 2 := rfl
    have ho8 := o8_10 (.mk 10 a b nm arg n s op A B pats kids) rfl
    rw [Bool.eq_iff_iff, ownP_iff, oneE_iff _ _ hs, o2_iff _ _ hf, o4_iff _ _ hf, o6_iff _ true rfl, k2_iff, k4_iff, k6_iff, k8_iff, k10_iff, k12_iff, k14_iff, k16_iff, hq, ho8]
    simp only [Ex.kind, Ex.nm, Ex.arg, Ex.n, Ex.s, Ex.op, Ex.A, Ex.B, Ex.pats, Ex.kids, sA, sB, rA, rB, mA, nA, Bool.or_eq_true, Bool.and_eq_true, Bool.not_eq_true', decide_eq_true_eq, if_true, if_false, Bool.false_eq_true]
    constructor
    · intro h
      simp_all
    · intro h
      simp_all
  by_cases q9 : k = 9
  · subst q9
    have hs : shOf (.mk 9 a b nm arg n s op A B pats kids) = ⟨true, false, false, false, false, true, false, false, 1, true⟩ := rfl
    have hf : fldE (.mk 9 a b nm arg n s op A B pats kids) = .mk 9 0 0 nm [] 0 [] 0 A noTy [] [] := rfl
    have hq : fldK (.mk 9 a b nm arg n s op A B pats kids) = 1 := rfl
    have ho8 := o8_9 (.mk 9 a b nm arg n s op A B pats kids) rfl
    rw [Bool.eq_iff_iff, ownP_iff, oneE_iff _ _ hs, o2_iff _ _ hf, o4_iff _ _ hf, o6_iff _ true rfl, k2_iff, k4_iff, k6_iff, k8_iff, k10_iff, k12_iff, k14_iff, k16_iff, hq, ho8]
    simp only [Ex.kind, Ex.nm, Ex.arg, Ex.n, Ex.s, Ex.op, Ex.A, Ex.B, Ex.pats, Ex.kids, sA, sB, rA, rB, mA, nA, Bool.or_eq_true, Bool.and_eq_true, Bool.not_eq_true', decide_eq_true_eq, if_true, if_false, Bool.false_eq_true]
    constructor
    · intro h
      simp_all
    · intro h
      simp_all
  by_cases q11 : k = 11
  · subst q11
    have hs : shOf (.mk 11 a b nm arg n s op A B pats kids) = ⟨true, false, false, false, false, true, false, false, 2, true⟩ := rfl
    have hf : fldE (.mk 11 a b nm arg n s op A B pats kids) = .mk 11 0 0 nm [] 0 [] 0 A noTy [] [] := rfl
    have hq : fldK (.mk 11 a b nm arg n s op A B pats kids) = 2 := rfl
    have ho8 := o8_11 (.mk 11 a b nm arg n s op A B pats kids) rfl
    rw [Bool.eq_iff_iff, ownP_iff, oneE_iff _ _ hs, o2_iff _ _ hf, o4_iff _ _ hf, o6_iff _ true rfl, k2_iff, k4_iff, k6_iff, k8_iff, k10_iff, k12_iff, k14_iff, k16_iff, hq, ho8]
    simp only [Ex.kind, Ex.nm, Ex.arg, Ex.n, Ex.s, Ex.op, Ex.A, Ex.B, Ex.pats, Ex.kids, sA, sB, rA, rB, mA, nA, Bool.or_eq_true, Bool.and_eq_true, Bool.not_eq_true', decide_eq_true_eq, if_true, if_false, Bool.false_eq_true]
    constructor
    · intro h
      simp_all
    · intro h
      simp_all
  by_cases q12 : k = 12
  · subst q12
    have hs : shOf (.mk 12 a b nm arg n s op A B pats kids) = ⟨true, true, false, false, false, true, true, false, 2, true⟩ := rfl
    have hf : fldE (.mk 12 a b nm arg n s op A B pats kids) = .mk 12 0 0 nm arg 0 [] 0 A B [] [] := rfl
    have hq : fldK (.mk 12 a b nm arg n s op A B pats kids) = 2 := rfl
    have ho8 := o8_12 (.mk 12 a b nm arg n s op A B pats kids) rfl
    rw [Bool.eq_iff_iff, ownP_iff, oneE_iff _ _ hs, o2_iff _ _ hf, o4_iff _ _ hf, o6_iff _ true rfl, k2_iff, k4_iff, k6_iff, k8_iff, k10_iff, k12_iff, k14_iff, k16_iff, hq, ho8]
    simp only [Ex.kind, Ex.nm, Ex.arg, Ex.n, Ex.s, Ex.op, Ex.A, Ex.B, Ex.pats, Ex.kids, sA, sB, rA, rB, mA, nA, Bool.or_eq_true, Bool.and_eq_true, Bool.not_eq_true', decide_eq_true_eq, if_true, if_false, Bool.false_eq_true]
    constructor
    · intro h
      simp_all
    · intro h
      simp_all
  by_cases q13 : k = 13
  · subst q13
    have hs : shOf (.mk 13 a b nm arg n s op A B pats kids) = ⟨false, false, false, false, false, false, false, false, 3, true⟩ := rfl
    have hf : fldE (.mk 13 a b nm arg n s op A B pats kids) = .mk 13 0 0 [] [] 0 [] 0 noTy noTy [] [] := rfl
    have hq : fldK (.mk 13 a b nm arg n s op A B pats kids) = 3 := rfl
    have ho8 := o8_13 (.mk 13 a b nm arg n s op A B pats kids) rfl
    rw [Bool.eq_iff_iff, ownP_iff, oneE_iff _ _ hs, o2_iff _ _ hf, o4_iff _ _ hf, o6_iff _ true rfl, k2_iff, k4_iff, k6_iff, k8_iff, k10_iff, k12_iff, k14_iff, k16_iff, hq, ho8]
    simp only [Ex.kind, Ex.nm, Ex.arg, Ex.n, Ex.s, Ex.op, Ex.A, Ex.B, Ex.pats, Ex.kids, sA, sB, rA, rB, mA, nA, Bool.or_eq_true, Bool.and_eq_true, Bool.not_eq_true', decide_eq_true_eq, if_true, if_false, Bool.false_eq_true]
    constructor
    · intro h
      simp_all
    · intro h
      simp_all
  by_cases q14 : k = 14
  · subst q14
    have hs : shOf (.mk 14 a b nm arg n s op A B pats kids) = ⟨false, false, false, false, false, false, false, false, ((pats.length : Int) + 1), decide (0 < pats.length)⟩ := rfl
    have hf : fldE (.mk 14 a b nm arg n s op A B pats kids) = .mk 14 0 0 [] [] 0 [] 0 noTy noTy pats [] := rfl
    have hq : fldK (.mk 14 a b nm arg n s op A B pats kids) = IntKind.i64.wrap (1 + (pats.length : Int)) := rfl
    have hw : (IntKind.i64.wrap (1 + (pats.length : Int)) = (kids.length : Int)) ↔ ((kids.length : Int) = (pats.length : Int) + 1) := by
      by_cases hl : pats.length ≤ 9223372036854775806
      · rw [IntWalk.i64_in _ (by omega)]; omega
      · have : pats.length = 9223372036854775807 := by omega
        rw [this]
        constructor
        · intro h
          have h2 : IntKind.i64.wrap (1 + ((9223372036854775807 : Nat) : Int)) = -9223372036854775808 := by decide
          rw [h2] at h
          omega
        · intro h; omega
    have ho8 := o8_14 (.mk 14 a b nm arg n s op A B pats kids) rfl
    rw [Bool.eq_iff_iff, ownP_iff, oneE_iff _ _ hs, o2_iff _ _ hf, o4_iff _ _ hf, o6_iff _ true rfl, k2_iff, k4_iff, k6_iff, k8_iff, k10_iff, k12_iff, k14_iff, k16_iff, hq, ho8]
    simp only [Ex.kind, Ex.nm, Ex.arg, Ex.n, Ex.s, Ex.op, Ex.A, Ex.B, Ex.pats, Ex.kids, sA, sB, rA, rB, mA, nA, hw, Bool.or_eq_true, Bool.and_eq_true, Bool.not_eq_true', decide_eq_true_eq, if_true, if_false, Bool.false_eq_true]
    constructor
    · intro h
      simp_all <;> omega
    · intro h
      simp_all <;> omega
  by_cases q15 : k = 15
  · subst q15
    have hs : shOf (.mk 15 a b nm arg n s op A B pats kids) = ⟨false, false, false, false, false, true, false, true, 1, true⟩ := rfl
    have hf : fldE (.mk 15 a b nm arg n s op A B pats kids) = .mk 15 0 0 [] [] 0 [] 0 A noTy [] [] := rfl
    have hq : fldK (.mk 15 a b nm arg n s op A B pats kids) = 1 := rfl
    have ho8 := o8_15 (.mk 15 a b nm arg n s op A B pats kids) rfl
    rw [Bool.eq_iff_iff, ownP_iff, oneE_iff _ _ hs, o2_iff _ _ hf, o4_iff _ _ hf, o6_iff _ false rfl, k2_iff, k4_iff, k6_iff, k8_iff, k10_iff, k12_iff, k14_iff, k16_iff, hq, ho8]
    simp only [Ex.kind, Ex.nm, Ex.arg, Ex.n, Ex.s, Ex.op, Ex.A, Ex.B, Ex.pats, Ex.kids, sA, sB, rA, rB, mA, nA, Bool.or_eq_true, Bool.and_eq_true, Bool.not_eq_true', decide_eq_true_eq, if_true, if_false, Bool.false_eq_true]
    constructor
    · intro h
      simp_all
    · intro h
      cases hN : mNone A <;> simp_all
  by_cases q16 : k = 16
  · subst q16
    have hs : shOf (.mk 16 a b nm arg n s op A B pats kids) = ⟨false, false, false, false, true, false, false, false, 2, true⟩ := rfl
    have hf : fldE (.mk 16 a b nm arg n s op A B pats kids) = .mk 16 0 0 [] [] 0 [] op noTy noTy [] [] := rfl
    have hq : fldK (.mk 16 a b nm arg n s op A B pats kids) = 2 := rfl
    have ho8 := o8_16 (.mk 16 a b nm arg n s op A B pats kids) rfl
    rw [Bool.eq_iff_iff, ownP_iff, oneE_iff _ _ hs, o2_iff _ _ hf, o4_iff _ _ hf, o6_iff _ true rfl, k2_iff, k4_iff, k6_iff, k8_iff, k10_iff, k12_iff, k14_iff, k16_iff, hq, ho8]
    simp only [Ex.kind, Ex.nm, Ex.arg, Ex.n, Ex.s, Ex.op, Ex.A, Ex.B, Ex.pats, Ex.kids, sA, sB, rA, rB, mA, nA, Bool.or_eq_true, Bool.and_eq_true, Bool.not_eq_true', decide_eq_true_eq, if_true, if_false, Bool.false_eq_true]
    constructor
    · intro h
      simp_all
    · intro h
      simp_all
  have hs : shOf (.mk k a b nm arg n s op A B pats kids) = ⟨false, false, false, false, false, false, false, false, 0, false⟩ := by
    unfold shOf
    simp only [Ex.kind, q1, q2, q3, q4, q5, q7, q6, q8, q10, q9, q11, q12, q13, q14, q15, q16, if_false, or_self, or_false, false_or]
  have hq : fldK (.mk k a b nm arg n s op A B pats kids) = -1 := by
    unfold fldK
    simp only [Ex.kind, q1, q2, q3, q4, q5, q7, q6, q8, q10, q9, q11, q12, q13, q14, q15, q16, if_false]
  have h1 : oneE (.mk k a b nm arg n s op A B pats kids) = false := by
    unfold oneE k2
    rw [hs]
    rfl
  rw [h1]
  rw [Bool.eq_false_iff]
  intro h
  rw [ownP_iff, o2_iff _ _ rfl, hq] at h
  have h2 := h.1.1
  simp only [Ex.kids] at h2
  omega
theorem right_check {e : Ex} (h : ExW e) : rightB e = mCheck e := by
  induction h with
  | @mk k a b nm arg m s op A B pats kids h1 h2 h3 h4 h5 h6 h7 h8 h9 ih =>
    rw [check_mk7, ← own_one (by omega) (by omega), rightB_eq, ownP]
    congr 1
    simp only [Ex.kids]
    clear h7 h9
    induction kids with
    | nil => rfl
    | cons x r ihr =>
      rw [List.all_cons, List.all_cons, ih x List.mem_cons_self, ihr (fun y hy => ih y (List.mem_cons_of_mem _ hy))]

end Go.Proofs.YtlagglkpbnbmeaaGreatDoor

/- The plain law: the texts of light right expressions are bounded. No program in sight. -/
namespace Go.Proofs.YtlagglkpbnbmeaaGreatDoor
open Go
set_option maxRecDepth 100000
set_option maxHeartbeats 1000000
set_option linter.unusedVariables false
set_option linter.unusedSimpArgs false

theorem len_longS (s : List UInt8) : (mLong s).length ≤ 3 * s.length + 2 := by
  have h : (s.flatMap esc).length ≤ 3 * s.length := by
    induction s with
    | nil => simp
    | cons c r ih =>
      have hc : (esc c).length ≤ 3 := by unfold esc; split <;> simp
      rw [List.flatMap_cons, List.length_append, List.length_cons]
      omega
  rw [mLong, List.length_cons, List.length_append, List.length_cons, List.length_nil]
  omega
theorem len_name {s : List UInt8} (h : mName s = true) : s.length ≤ 32 := by
  unfold mName at h
  cases s with
  | nil => simp
  | cons c r =>
    simp only [Bool.and_eq_true, decide_eq_true_eq] at h
    exact h.1.1.1
theorem len_truth (n : Int) : (truthT n).length ≤ 5 := by unfold truthT; split <;> simp
theorem len_q (k : Int) (t : List UInt8) : (qT k t).length ≤ t.length + 2 := by unfold qT; split <;> simp
theorem len_kid (k : Int) (t : List UInt8) : (kidT k t).length ≤ t.length + 2 := by unfold kidT; split <;> simp
theorem len_sign (k : Int) : (signT k).length ≤ 4 := by
  unfold signT
  split
  · simp
  · split
    · simp
    · split
      · simp
      · split
        · simp
        · split
          · simp
          · split <;> simp
theorem len_sort {A : Ty} (h : Ann A) (hs : A.size ≤ 401) : (sortT A).length ≤ 3000 := by
  rcases h with rfl | h
  · simp [sortT, noTy, Ty.kind]
  · have := mTxt_len7 h
    rw [sortT, if_neg (closed_kind h)]
    simp only [List.length_append, List.length_cons, List.length_nil]
    omega
theorem len_param {A : Ty} (s : List UInt8) (h : Ann A) (hs : A.size ≤ 401) : (paramT s A).length ≤ s.length + 3000 := by
  rcases h with rfl | h
  · rw [show paramT s noTy = s from rfl]; omega
  · have := mTxt_len7 h
    rw [paramT, if_neg (closed_kind h)]
    simp only [List.length_append, List.length_cons, List.length_nil]
    omega
theorem len_list2 (k a b : Int) (nm : List UInt8) (n : Int) (s : List UInt8) (x y : Pa) : (Pa.mk k a b nm n s [x, y]).list.length = 1 + x.list.length + y.list.length := by
  rw [Pa.list, pasList, pasList, pasList]
  simp only [List.length_cons, List.length_append, List.length_nil]
  omega
theorem len_list0 (k a b : Int) (nm : List UInt8) (n : Int) (s : List UInt8) : (Pa.mk k a b nm n s []).list.length = 1 := by
  rw [Pa.list, pasList]; rfl
theorem len_pat {p : Pa} (h : RPa p) : (xPat p).length + 10 ≤ 1000 * p.list.length := by
  induction h with
  | any a b => rw [xPat_1, len_list0]; simp
  | name a b s h => rw [xPat_2, len_list0]; have := len_name h; omega
  | int a b n h => rw [xPat_3, len_list0]; have := mNum_len h.1 h.2; omega
  | bool a b n h => rw [xPat_4, len_list0]; have := len_truth n; omega
  | str a b s h => rw [xPat_5, len_list0]; have := len_longS s; omega
  | unit a b => rw [xPat_6, len_list0]; simp
  | nil a b => rw [xPat_8, len_list0]; simp
  | pair a b x y hx hy ihx ihy =>
    rw [xPat_7, len_list2]
    simp only [List.length_append, List.length_cons, List.length_nil]
    omega
  | cons a b x y hx hy ihx ihy =>
    rw [xPat_9, len_list2]
    have h1 := len_kid x.kind (xPat x)
    have h2 := len_kid y.kind (xPat y)
    simp only [List.length_append, List.length_cons, List.length_nil]
    omega
theorem hExs_cons {e : Ex} {r : List Ex} {m : Int} (h0 : 0 ≤ m) (h : hExs (e :: r) m ≤ 400) : hExs (e :: r) m = hExs r (hEx e m) ∧ hEx e m ≤ 400 ∧ m + 1 ≤ hEx e m := by
  have hb := hEx_b e m h0
  have hr := hExs_b r (hEx e m) (by omega)
  rw [hExs] at h ⊢
  split at h
  · rename_i hn
    rw [if_pos hn]
    exact ⟨rfl, by omega, by omega⟩
  · omega
theorem hPas_nil (d m : Int) : hPas d [] m = m := by rw [hPas]
theorem hExs_nil (m : Int) : hExs [] m = m := by rw [hExs]
abbrev Short (e : Ex) : Prop := ∀ n : Int, 0 ≤ n → ExW e → hEx e n ≤ 400 → ((xEx e).length : Int) + 402000 ≤ 1000000 * (hEx e n - n)
theorem len_arms : ∀ (l : List (Pa × Ex)) (f : Bool) (m : Int), 0 ≤ m → (∀ q, q ∈ l → (xPat q.1).length ≤ 401000) → (∀ q, q ∈ l → Short q.2 ∧ ExW q.2) → hExs (l.map (·.2)) m ≤ 400 → ((aL f l).length : Int) ≤ 1000000 * (hExs (l.map (·.2)) m - m)
  | [], f, m, h0, _, _, _ => by rw [aL, List.map_nil, hExs_nil]; simp
  | q :: r, f, m, h0, hp, hq, h => by
    rw [List.map_cons] at h ⊢
    obtain ⟨e1, e2, e3⟩ := hExs_cons h0 h
    rw [e1] at h ⊢
    have h1 := len_arms r false (hEx q.2 m) (by omega) (fun x hx => hp x (List.mem_cons_of_mem _ hx)) (fun x hx => hq x (List.mem_cons_of_mem _ hx)) h
    obtain ⟨h2, h3⟩ := hq q List.mem_cons_self
    have h4 := h2 m h0 h3 e2
    have h5 := hp q List.mem_cons_self
    have h6 : (if f = true then ([] : List UInt8) else [32, 124, 32]).length ≤ 3 := by split <;> simp
    rw [aL]
    simp only [List.length_append, List.length_cons, List.length_nil, Int.natCast_add] at *
    omega
theorem len_ex {e : Ex} (h : REx e) : Short e := by
  induction h with
  | name a b s hm =>
    intro n h0 hW h
    obtain ⟨w1, w2, w3, w4, w5, _, _, w8, w9⟩ := exW_parts hW
    simp only [Ex.nm, Ex.arg, Ex.s, Ex.A, Ex.B] at w1 w2 w3 w4 w5
    rw [hEx, if_neg (by simp only [List.length_nil] at *; omega)] at h ⊢
    have b1 := hTy_b noTy (n + 1) (by omega)
    have b2 := hTy_b noTy (hTy noTy (n + 1)) (by omega)
    rw [hPas_nil] at h ⊢
    generalize hTy noTy (hTy noTy (n + 1)) = m0 at *
    rw [hExs_nil, xEx_1]
    have p1 := len_name hm
    simp only [List.length_append, List.length_cons, List.length_nil, Int.natCast_add] at *
    omega
  | int a b n0 hn =>
    intro n h0 hW h
    obtain ⟨w1, w2, w3, w4, w5, _, _, w8, w9⟩ := exW_parts hW
    simp only [Ex.nm, Ex.arg, Ex.s, Ex.A, Ex.B] at w1 w2 w3 w4 w5
    rw [hEx, if_neg (by simp only [List.length_nil] at *; omega)] at h ⊢
    have b1 := hTy_b noTy (n + 1) (by omega)
    have b2 := hTy_b noTy (hTy noTy (n + 1)) (by omega)
    rw [hPas_nil] at h ⊢
    generalize hTy noTy (hTy noTy (n + 1)) = m0 at *
    rw [hExs_nil, xEx_2]
    have p1 := mNum_len hn.1 hn.2
    simp only [List.length_append, List.length_cons, List.length_nil, Int.natCast_add] at *
    omega
  | bool a b n0 hn =>
    intro n h0 hW h
    obtain ⟨w1, w2, w3, w4, w5, _, _, w8, w9⟩ := exW_parts hW
    simp only [Ex.nm, Ex.arg, Ex.s, Ex.A, Ex.B] at w1 w2 w3 w4 w5
    rw [hEx, if_neg (by simp only [List.length_nil] at *; omega)] at h ⊢
    have b1 := hTy_b noTy (n + 1) (by omega)
    have b2 := hTy_b noTy (hTy noTy (n + 1)) (by omega)
    rw [hPas_nil] at h ⊢
    generalize hTy noTy (hTy noTy (n + 1)) = m0 at *
    rw [hExs_nil, xEx_3]
    have p1 := len_truth n0
    simp only [List.length_append, List.length_cons, List.length_nil, Int.natCast_add] at *
    omega
  | str a b s hs =>
    intro n h0 hW h
    obtain ⟨w1, w2, w3, w4, w5, _, _, w8, w9⟩ := exW_parts hW
    simp only [Ex.nm, Ex.arg, Ex.s, Ex.A, Ex.B] at w1 w2 w3 w4 w5
    rw [hEx, if_neg (by simp only [List.length_nil] at *; omega)] at h ⊢
    have b1 := hTy_b noTy (n + 1) (by omega)
    have b2 := hTy_b noTy (hTy noTy (n + 1)) (by omega)
    rw [hPas_nil] at h ⊢
    generalize hTy noTy (hTy noTy (n + 1)) = m0 at *
    rw [hExs_nil, xEx_4]
    have p1 := len_longS s
    simp only [List.length_append, List.length_cons, List.length_nil, Int.natCast_add] at *
    omega
  | unit a b =>
    intro n h0 hW h
    obtain ⟨w1, w2, w3, w4, w5, _, _, w8, w9⟩ := exW_parts hW
    simp only [Ex.nm, Ex.arg, Ex.s, Ex.A, Ex.B] at w1 w2 w3 w4 w5
    rw [hEx, if_neg (by simp only [List.length_nil] at *; omega)] at h ⊢
    have b1 := hTy_b noTy (n + 1) (by omega)
    have b2 := hTy_b noTy (hTy noTy (n + 1)) (by omega)
    rw [hPas_nil] at h ⊢
    generalize hTy noTy (hTy noTy (n + 1)) = m0 at *
    rw [hExs_nil, xEx_5]
    simp only [List.length_append, List.length_cons, List.length_nil, Int.natCast_add] at *
    omega
  | nil a b =>
    intro n h0 hW h
    obtain ⟨w1, w2, w3, w4, w5, _, _, w8, w9⟩ := exW_parts hW
    simp only [Ex.nm, Ex.arg, Ex.s, Ex.A, Ex.B] at w1 w2 w3 w4 w5
    rw [hEx, if_neg (by simp only [List.length_nil] at *; omega)] at h ⊢
    have b1 := hTy_b noTy (n + 1) (by omega)
    have b2 := hTy_b noTy (hTy noTy (n + 1)) (by omega)
    rw [hPas_nil] at h ⊢
    generalize hTy noTy (hTy noTy (n + 1)) = m0 at *
    rw [hExs_nil, xEx_7]
    simp only [List.length_append, List.length_cons, List.length_nil, Int.natCast_add] at *
    omega
  | pair a b x y hx hy ihx ihy =>
    intro n h0 hW h
    obtain ⟨w1, w2, w3, w4, w5, _, _, w8, w9⟩ := exW_parts hW
    simp only [Ex.nm, Ex.arg, Ex.s, Ex.A, Ex.B] at w1 w2 w3 w4 w5
    rw [hEx, if_neg (by simp only [List.length_nil] at *; omega)] at h ⊢
    have b1 := hTy_b noTy (n + 1) (by omega)
    have b2 := hTy_b noTy (hTy noTy (n + 1)) (by omega)
    rw [hPas_nil] at h ⊢
    generalize hTy noTy (hTy noTy (n + 1)) = m0 at *
    obtain ⟨e1x, e2x, e3x⟩ := hExs_cons (by omega) h
    rw [e1x] at h ⊢
    have gx := ihx (m0) (by omega) (w9 x (by simp [Ex.kids])) e2x
    obtain ⟨e1y, e2y, e3y⟩ := hExs_cons (by omega) h
    rw [e1y] at h ⊢
    have gy := ihy (hEx x (m0)) (by omega) (w9 y (by simp [Ex.kids])) e2y
    rw [hExs_nil, xEx_6]
    simp only [List.length_append, List.length_cons, List.length_nil, Int.natCast_add] at *
    omega
  | cons a b x y hx hy ihx ihy =>
    intro n h0 hW h
    obtain ⟨w1, w2, w3, w4, w5, _, _, w8, w9⟩ := exW_parts hW
    simp only [Ex.nm, Ex.arg, Ex.s, Ex.A, Ex.B] at w1 w2 w3 w4 w5
    rw [hEx, if_neg (by simp only [List.length_nil] at *; omega)] at h ⊢
    have b1 := hTy_b noTy (n + 1) (by omega)
    have b2 := hTy_b noTy (hTy noTy (n + 1)) (by omega)
    rw [hPas_nil] at h ⊢
    generalize hTy noTy (hTy noTy (n + 1)) = m0 at *
    obtain ⟨e1x, e2x, e3x⟩ := hExs_cons (by omega) h
    rw [e1x] at h ⊢
    have gx := ihx (m0) (by omega) (w9 x (by simp [Ex.kids])) e2x
    obtain ⟨e1y, e2y, e3y⟩ := hExs_cons (by omega) h
    rw [e1y] at h ⊢
    have gy := ihy (hEx x (m0)) (by omega) (w9 y (by simp [Ex.kids])) e2y
    rw [hExs_nil, xEx_8]
    have p1 := len_q x.kind (xEx x)
    have p2 := len_q y.kind (xEx y)
    simp only [List.length_append, List.length_cons, List.length_nil, Int.natCast_add] at *
    omega
  | app a b x y hx hy ihx ihy =>
    intro n h0 hW h
    obtain ⟨w1, w2, w3, w4, w5, _, _, w8, w9⟩ := exW_parts hW
    simp only [Ex.nm, Ex.arg, Ex.s, Ex.A, Ex.B] at w1 w2 w3 w4 w5
    rw [hEx, if_neg (by simp only [List.length_nil] at *; omega)] at h ⊢
    have b1 := hTy_b noTy (n + 1) (by omega)
    have b2 := hTy_b noTy (hTy noTy (n + 1)) (by omega)
    rw [hPas_nil] at h ⊢
    generalize hTy noTy (hTy noTy (n + 1)) = m0 at *
    obtain ⟨e1x, e2x, e3x⟩ := hExs_cons (by omega) h
    rw [e1x] at h ⊢
    have gx := ihx (m0) (by omega) (w9 x (by simp [Ex.kids])) e2x
    obtain ⟨e1y, e2y, e3y⟩ := hExs_cons (by omega) h
    rw [e1y] at h ⊢
    have gy := ihy (hEx x (m0)) (by omega) (w9 y (by simp [Ex.kids])) e2y
    rw [hExs_nil, xEx_10]
    have p1 := len_q x.kind (xEx x)
    have p2 := len_q y.kind (xEx y)
    simp only [List.length_append, List.length_cons, List.length_nil, Int.natCast_add] at *
    omega
  | op a b op x y h1 h2 hx hy ihx ihy =>
    intro n h0 hW h
    obtain ⟨w1, w2, w3, w4, w5, _, _, w8, w9⟩ := exW_parts hW
    simp only [Ex.nm, Ex.arg, Ex.s, Ex.A, Ex.B] at w1 w2 w3 w4 w5
    rw [hEx, if_neg (by simp only [List.length_nil] at *; omega)] at h ⊢
    have b1 := hTy_b noTy (n + 1) (by omega)
    have b2 := hTy_b noTy (hTy noTy (n + 1)) (by omega)
    rw [hPas_nil] at h ⊢
    generalize hTy noTy (hTy noTy (n + 1)) = m0 at *
    obtain ⟨e1x, e2x, e3x⟩ := hExs_cons (by omega) h
    rw [e1x] at h ⊢
    have gx := ihx (m0) (by omega) (w9 x (by simp [Ex.kids])) e2x
    obtain ⟨e1y, e2y, e3y⟩ := hExs_cons (by omega) h
    rw [e1y] at h ⊢
    have gy := ihy (hEx x (m0)) (by omega) (w9 y (by simp [Ex.kids])) e2y
    rw [hExs_nil, xEx_16]
    have p1 := len_q x.kind (xEx x)
    have p2 := len_q y.kind (xEx y)
    have p3 := len_sign op
    simp only [List.length_append, List.length_cons, List.length_nil, Int.natCast_add] at *
    omega
  | asc a b A x hA hx ihx =>
    intro n h0 hW h
    obtain ⟨w1, w2, w3, w4, w5, _, _, w8, w9⟩ := exW_parts hW
    simp only [Ex.nm, Ex.arg, Ex.s, Ex.A, Ex.B] at w1 w2 w3 w4 w5
    rw [hEx, if_neg (by simp only [List.length_nil] at *; omega)] at h ⊢
    have b1 := hTy_b A (n + 1) (by omega)
    have b2 := hTy_b noTy (hTy A (n + 1)) (by omega)
    rw [hPas_nil] at h ⊢
    generalize hTy noTy (hTy A (n + 1)) = m0 at *
    obtain ⟨e1x, e2x, e3x⟩ := hExs_cons (by omega) h
    rw [e1x] at h ⊢
    have gx := ihx (m0) (by omega) (w9 x (by simp [Ex.kids])) e2x
    rw [hExs_nil, xEx_15]
    have p1 := len_sort (.inr hA) w4
    simp only [List.length_append, List.length_cons, List.length_nil, Int.natCast_add] at *
    omega
  | func a b s A x hm hA hx ihx =>
    intro n h0 hW h
    obtain ⟨w1, w2, w3, w4, w5, _, _, w8, w9⟩ := exW_parts hW
    simp only [Ex.nm, Ex.arg, Ex.s, Ex.A, Ex.B] at w1 w2 w3 w4 w5
    rw [hEx, if_neg (by simp only [List.length_nil] at *; omega)] at h ⊢
    have b1 := hTy_b A (n + 1) (by omega)
    have b2 := hTy_b noTy (hTy A (n + 1)) (by omega)
    rw [hPas_nil] at h ⊢
    generalize hTy noTy (hTy A (n + 1)) = m0 at *
    obtain ⟨e1x, e2x, e3x⟩ := hExs_cons (by omega) h
    rw [e1x] at h ⊢
    have gx := ihx (m0) (by omega) (w9 x (by simp [Ex.kids])) e2x
    rw [hExs_nil, xEx_9]
    have p1 := len_param s hA w4
    have p2 := len_name hm
    simp only [List.length_append, List.length_cons, List.length_nil, Int.natCast_add] at *
    omega
  | letE a b s A x y hm hA hx hy ihx ihy =>
    intro n h0 hW h
    obtain ⟨w1, w2, w3, w4, w5, _, _, w8, w9⟩ := exW_parts hW
    simp only [Ex.nm, Ex.arg, Ex.s, Ex.A, Ex.B] at w1 w2 w3 w4 w5
    rw [hEx, if_neg (by simp only [List.length_nil] at *; omega)] at h ⊢
    have b1 := hTy_b A (n + 1) (by omega)
    have b2 := hTy_b noTy (hTy A (n + 1)) (by omega)
    rw [hPas_nil] at h ⊢
    generalize hTy noTy (hTy A (n + 1)) = m0 at *
    obtain ⟨e1x, e2x, e3x⟩ := hExs_cons (by omega) h
    rw [e1x] at h ⊢
    have gx := ihx (m0) (by omega) (w9 x (by simp [Ex.kids])) e2x
    obtain ⟨e1y, e2y, e3y⟩ := hExs_cons (by omega) h
    rw [e1y] at h ⊢
    have gy := ihy (hEx x (m0)) (by omega) (w9 y (by simp [Ex.kids])) e2y
    rw [hExs_nil, xEx_11]
    have p1 := len_sort hA w4
    have p2 := len_name hm
    simp only [List.length_append, List.length_cons, List.length_nil, Int.natCast_add] at *
    omega
  | recE a b s g A B x y hm hg hA hB hx hy ihx ihy =>
    intro n h0 hW h
    obtain ⟨w1, w2, w3, w4, w5, _, _, w8, w9⟩ := exW_parts hW
    simp only [Ex.nm, Ex.arg, Ex.s, Ex.A, Ex.B] at w1 w2 w3 w4 w5
    rw [hEx, if_neg (by simp only [List.length_nil] at *; omega)] at h ⊢
    have b1 := hTy_b A (n + 1) (by omega)
    have b2 := hTy_b B (hTy A (n + 1)) (by omega)
    rw [hPas_nil] at h ⊢
    generalize hTy B (hTy A (n + 1)) = m0 at *
    obtain ⟨e1x, e2x, e3x⟩ := hExs_cons (by omega) h
    rw [e1x] at h ⊢
    have gx := ihx (m0) (by omega) (w9 x (by simp [Ex.kids])) e2x
    obtain ⟨e1y, e2y, e3y⟩ := hExs_cons (by omega) h
    rw [e1y] at h ⊢
    have gy := ihy (hEx x (m0)) (by omega) (w9 y (by simp [Ex.kids])) e2y
    rw [hExs_nil, xEx_12]
    have p1 := len_param g hA w4
    have p2 := len_name hm
    have p3 := len_name hg
    have p4 := len_sort hB w5
    simp only [List.length_append, List.length_cons, List.length_nil, Int.natCast_add] at *
    omega
  | ifE a b x y z hx hy hz ihx ihy ihz =>
    intro n h0 hW h
    obtain ⟨w1, w2, w3, w4, w5, _, _, w8, w9⟩ := exW_parts hW
    simp only [Ex.nm, Ex.arg, Ex.s, Ex.A, Ex.B] at w1 w2 w3 w4 w5
    rw [hEx, if_neg (by simp only [List.length_nil] at *; omega)] at h ⊢
    have b1 := hTy_b noTy (n + 1) (by omega)
    have b2 := hTy_b noTy (hTy noTy (n + 1)) (by omega)
    rw [hPas_nil] at h ⊢
    generalize hTy noTy (hTy noTy (n + 1)) = m0 at *
    obtain ⟨e1x, e2x, e3x⟩ := hExs_cons (by omega) h
    rw [e1x] at h ⊢
    have gx := ihx (m0) (by omega) (w9 x (by simp [Ex.kids])) e2x
    obtain ⟨e1y, e2y, e3y⟩ := hExs_cons (by omega) h
    rw [e1y] at h ⊢
    have gy := ihy (hEx x (m0)) (by omega) (w9 y (by simp [Ex.kids])) e2y
    obtain ⟨e1z, e2z, e3z⟩ := hExs_cons (by omega) h
    rw [e1z] at h ⊢
    have gz := ihz (hEx y (hEx x (m0))) (by omega) (w9 z (by simp [Ex.kids])) e2z
    rw [hExs_nil, xEx_13]
    simp only [List.length_append, List.length_cons, List.length_nil, Int.natCast_add] at *
    omega
  | matchE a b x l hne hx hp hcp he ihx ihe =>
    intro n h0 hW h
    obtain ⟨w1, w2, w3, w4, w5, _, _, w8, w9⟩ := exW_parts hW
    simp only [Ex.nm, Ex.arg, Ex.s, Ex.A, Ex.B] at w1 w2 w3 w4 w5
    rw [hEx, if_neg (by simp only [List.length_nil] at *; omega)] at h ⊢
    have b1 := hTy_b noTy (n + 1) (by omega)
    have b2 := hTy_b noTy (hTy noTy (n + 1)) (by omega)
    have b3 := hPas_b 0 (l.map (·.1)) (hTy noTy (hTy noTy (n + 1))) (by omega) (by omega) (by omega)
    have b4 := hExs_b (x :: l.map (·.2)) (hPas 0 (l.map (·.1)) (hTy noTy (hTy noTy (n + 1)))) (by omega)
    have b5 : n + 1 ≤ hPas 0 (l.map (·.1)) (hTy noTy (hTy noTy (n + 1))) := by omega
    generalize hPas 0 (l.map (·.1)) (hTy noTy (hTy noTy (n + 1))) = m0 at *
    obtain ⟨e1, e2, e3⟩ := hExs_cons (by omega) h
    rw [e1] at h ⊢
    have g1 := ihx m0 (by omega) (w9 x (by simp [Ex.kids])) e2
    have g2 := len_arms l true (hEx x m0) (by omega) (fun q hq => by
      have h1 := (w8 q.1 (List.mem_map.2 ⟨q, hq, rfl⟩)).2
      have h2 := len_pat (hp q hq)
      omega) (fun q hq => ⟨ihe q hq, w9 q.2 (List.mem_cons_of_mem _ (List.mem_map.2 ⟨q, hq, rfl⟩))⟩) h
    rw [xEx_14]
    simp only [List.length_append, List.length_cons, List.length_nil, Int.natCast_add] at *
    omega
theorem paK_mono {p : Pa} (h : PaK 400 p) : PaK 100000 p := by
  induction h with
  | mk h1 h2 h3 _ ih => exact .mk (by omega) (by omega) (by omega) ih
theorem exK_of {e : Ex} (h : ExW e) : ExK 100000 e := by
  induction h with
  | @mk k a b nm arg m s op A B pats kids h1 h2 h3 h4 h5 h6 h7 h8 h9 ih =>
    exact .mk (by omega) (by omega) (by omega) (by omega) (by omega) (by omega) (by omega) (fun p hp => paK_mono (h8 p hp).1) ih
theorem lightN {e : Ex} {n : Int} (h0 : 0 ≤ n) (hL : ExL e) (hN : ExN e) (h : hEx e n ≤ 400) : ExW e ∧ (mCheck e = true → ExK 100000 e ∧ (xEx e).length ≤ 1000000000) := by
  obtain ⟨h1, _⟩ := hEx_w e n h0 hL h
  refine ⟨h1, fun hm => ⟨exK_of h1, ?_⟩⟩
  have := len_ex (rex_of hN hm) n h0 h1 h
  omega
theorem light {e : Ex} (hL : ExL e) (hN : ExN e) (h : ¬ 400 < hEx e 0) : ExW e ∧ (mCheck e = true → ExK 100000 e ∧ (xEx e).length ≤ 1000000000) := lightN (Int.le_refl 0) hL hN (by omega)

end Go.Proofs.YtlagglkpbnbmeaaGreatDoor

/- The wake-up call of layer 7. -/
namespace Go.Proofs.YtlagglkpbnbmeaaGreatDoor
open Go Go.RowKit
set_option maxRecDepth 100000
set_option maxHeartbeats 2000000
set_option linter.unusedVariables false

mutual
def pnB : Pa → Bool
  | .mk _ _ _ nm n s kids => decide (-9223372036854775808 ≤ n) && decide (n ≤ 9223372036854775807) && decide (nm.length ≤ 100000) && decide (s.length ≤ 100000) && decide (kids.length ≤ 100000) && pnsB kids
def pnsB : List Pa → Bool
  | [] => true
  | p :: r => pnB p && pnsB r
end
mutual
def enB : Ex → Bool
  | .mk _ _ _ nm ag n s _ A B pats kids => decide (-9223372036854775808 ≤ n) && decide (n ≤ 9223372036854775807) && decide (nm.length ≤ 100000) && decide (ag.length ≤ 100000) && decide (s.length ≤ 100000) && decide (A.size ≤ 100000) && decide (B.size ≤ 100000) && decide (pats.length ≤ 100000) && decide (kids.length ≤ 100000) && pnsB pats && ensB kids
def ensB : List Ex → Bool
  | [] => true
  | p :: r => enB p && ensB r
end
mutual
theorem pnB_ok : ∀ p : Pa, pnB p = true → PaN p ∧ PaK 100000 p
  | .mk k a b nm n s kids, h => by
    rw [pnB] at h
    simp only [Bool.and_eq_true, decide_eq_true_eq] at h
    obtain ⟨⟨⟨⟨⟨h1, h2⟩, h3⟩, h4⟩, h5⟩, h6⟩ := h
    have hk := pnsB_ok kids h6
    exact ⟨.mk ⟨h1, h2⟩ fun x hx => (hk x hx).1, .mk h3 h4 h5 fun x hx => (hk x hx).2⟩
theorem pnsB_ok : ∀ l : List Pa, pnsB l = true → ∀ p, p ∈ l → PaN p ∧ PaK 100000 p
  | [], _, p, hp => by cases hp
  | q :: r, h, p, hp => by
    rw [pnsB, Bool.and_eq_true] at h
    rcases List.mem_cons.1 hp with e | hp
    · rw [e]; exact pnB_ok q h.1
    · exact pnsB_ok r h.2 p hp
end
mutual
theorem enB_ok : ∀ p : Ex, enB p = true → ExN p ∧ ExK 100000 p
  | .mk k a b nm ag n s op A B pats kids, h => by
    rw [enB] at h
    simp only [Bool.and_eq_true, decide_eq_true_eq] at h
    obtain ⟨⟨⟨⟨⟨⟨⟨⟨⟨⟨h1, h2⟩, h3⟩, h4⟩, h5⟩, h6⟩, h7⟩, h8⟩, h9⟩, hp⟩, hk⟩ := h
    have hk := ensB_ok kids hk
    have hp := pnsB_ok pats hp
    exact ⟨.mk ⟨h1, h2⟩ (fun x hx => (hp x hx).1) fun x hx => (hk x hx).1, .mk h3 h4 h5 h6 h7 (Nat.le_trans h8 (by decide)) h9 (fun x hx => (hp x hx).2) fun x hx => (hk x hx).2⟩
theorem ensB_ok : ∀ l : List Ex, ensB l = true → ∀ p, p ∈ l → ExN p ∧ ExK 100000 p
  | [], _, p, hp => by cases hp
  | q :: r, h, p, hp => by
    rw [ensB, Bool.and_eq_true] at h
    rcases List.mem_cons.1 hp with e | hp
    · rw [e]; exact enB_ok q h.1
    · exact ensB_ok r h.2 p hp
end
def w7B : List UInt8 := [102, 117, 110, 32, 40, 120, 58, 105, 110, 116, 41, 45, 62, 109, 97, 116, 99, 104, 32, 120, 32, 119, 105, 116, 104, 32, 49, 58, 58, 95, 45, 62, 40, 120, 44, 126, 50, 41, 124, 121, 45, 62, 34, 97, 34, 32, 101, 110, 100]
def w7T : List UInt8 := [102, 117, 110, 32, 40, 120, 32, 58, 32, 105, 110, 116, 41, 32, 45, 62, 32, 109, 97, 116, 99, 104, 32, 120, 32, 119, 105, 116, 104, 32, 49, 32, 58, 58, 32, 95, 32, 45, 62, 32, 40, 120, 44, 32, 126, 50, 41, 32, 124, 32, 121, 32, 45, 62, 32, 34, 97, 34, 32, 101, 110, 100]
def w7N (a b : Int) : Ex := .mk 1 a b [120] [] 0 [] 0 noTy noTy [] []
def w7P : List Pa := [.mk 9 26 30 [] 0 [] [.mk 3 26 27 [] 1 [] [], .mk 1 29 30 [] 0 [] []], .mk 2 39 40 [121] 0 [] []]
def w7M : Ex := .mk 14 13 49 [] [] 0 [] 0 noTy noTy w7P [w7N 19 20, .mk 6 32 38 [] [] 0 [] 0 noTy noTy [] [w7N 33 34, .mk 2 35 37 [] [] (-2) [] 0 noTy noTy [] []], .mk 4 42 45 [] [] 0 [97] 0 noTy noTy [] []]
def w7E : Ex := .mk 9 0 49 [120] [] 0 [] 0 (.leaf 1) noTy [] [w7M]
theorem w7Parse : Con Tryz.prog 22 [.c (.sl 1 (bcells w7B))] [] (parD (.ok w7E)) [] := eParse w7B (by decide) (by kernel_rfl)
theorem w7Check : mCheck w7E = true := by kernel_rfl
theorem w7Par : paramT [120] (.leaf 1) = [40, 120, 32, 58, 32, 105, 110, 116, 41] := by rw [paramT, if_neg (by decide), mTxt_1]; rfl
theorem w7Long : xEx w7E = w7T := by
  rw [w7E, xEx_9, w7Par]
  kernel_rfl
theorem w7Text : Con Tryz.prog 11 [.agg (exX w7E)] [] (.tup [.c (.lit (str w7T)), .c (.lit (.int .i64 0))]) [] := by
  obtain ⟨h1, h2⟩ := enB_ok w7E (by kernel_rfl)
  have h := tText h2 h1 (fun _ => by rw [w7Long]; decide)
  rw [textOf, textErr, if_pos w7Check, if_pos w7Check, w7Long, if_pos (by decide), if_pos (by decide)] at h
  exact h
theorem kWakes7 : Con Tryz.prog 12 [] [] (.c (.lit (.bool true))) [] := by
  refine con_intro rfl rfl (by kernel_rfl) (by kernel_rfl) ?_
  refine js ?_
  refine u rfl rfl asg ?_
  refine jd ?_
  refine w1 0 ?_
  refine js ?_
  refine u rfl rfl (r_buildSliceOwn (e := 5) (sz := 1) (zs := [.int .u8 0]) (bcells w7B) rfl rfl (by kernel_rfl) (by kernel_rfl) rfl rfl rfl rfl rfl) ?_
  refine u rfl rfl (r_convConst rfl rfl (by kernel_rfl) rfl (by rfl)) ?_
  refine u rfl rfl (cl (w7Parse)) ?_
  refine u rfl rfl mv ?_
  refine u rfl rfl xt ?_
  refine u rfl rfl xt ?_
  refine u rfl rfl xt ?_
  refine u rfl rfl (r_alloc (x := 2001) (zs := zx) dx rfl rfl rfl (by kernel_rfl) kx) ?_
  refine u rfl rfl sA ?_
  refine u rfl rfl asg ?_
  refine u rfl rfl asg ?_
  refine jd ?_
  refine w4 0 1 3 2001 ?_
  refine js ?_
  refine u rfl rfl (lA 16) ?_
  refine u rfl rfl (cl (w7Text)) ?_
  refine u rfl rfl mv ?_
  refine u rfl rfl xt ?_
  refine u rfl rfl xt ?_
  refine u rfl rfl asg ?_
  refine u rfl rfl asg ?_
  refine jd ?_
  refine w4 0 3 4 5 ?_
  refine js ?_
  refine u rfl rfl mv ?_
  refine u rfl rfl (r_eqI rfl rfl rfl rfl) ?_
  refine u rfl rfl mv ?_
  refine u rfl rfl mv ?_
  refine u rfl rfl (r_eqI rfl rfl rfl rfl) ?_
  refine u rfl rfl pT ?_
  refine u rfl rfl mv ?_
  refine u rfl rfl mv ?_
  refine u rfl rfl ((r_eqS rfl rfl rfl rfl).cast (cast_b (b' := true) (by kernel_rfl))) ?_
  refine u rfl rfl pT ?_
  refine u rfl rfl asg ?_
  refine jd ?_
  refine w1 0 ?_
  refine J_ret ?_
  exact ⟨.inl rfl, _, rfl, .refl _, trivial⟩

end Go.Proofs.YtlagglkpbnbmeaaGreatDoor

