/- Bundle of Hv1 Rt1 Rt2 Rt3. -/
import Derived.Test.YtlagglkpbnbmeaaGreatDoorShC
import Derived.Test.YtlagglkpbnbmeaaGreatDoorShZ
import Derived.Test.YtlagglkpbnbmeaaGreatDoorRi1
import Derived.Test.YtlagglkpbnbmeaaGreatDoorPT
import Derived.Test.YtlagglkpbnbmeaaGreatDoorS2

/- Is an expression too great to be asked of? suretylaw05.Heavy, HeavyPat. -/
namespace Go.Proofs.YtlagglkpbnbmeaaGreatDoor
open Go Go.RowKit
set_option maxRecDepth 100000
set_option maxHeartbeats 4000000
set_option linter.unusedVariables false
set_option linter.unusedSimpArgs false

mutual
def hTy : Ty → Int → Int
  | .mk _ _ kids, n => hTys kids n
def hTys : List Ty → Int → Int
  | [], n => n
  | t :: r, n => if n ≤ 400 then hTys r (hTy t (n + 1)) else n
end
mutual
def hPa : Pa → Int → Int
  | .mk _ _ _ nm _ s kids, n => if 300 < (s.length : Int) ∨ 300 < (nm.length : Int) then 401 else hPas 1 kids n
def hPas : Int → List Pa → Int → Int
  | _, [], n => n
  | d, p :: r, n => if n ≤ 400 then hPas d r (hPa p (n + d)) else n
end
mutual
def hEx : Ex → Int → Int
  | .mk _ _ _ nm arg _ s _ A B pats kids, n => if 300 < (s.length : Int) ∨ 300 < (nm.length : Int) ∨ 300 < (arg.length : Int) then 401 else hExs kids (hPas 0 pats (hTy B (hTy A (n + 1))))
def hExs : List Ex → Int → Int
  | [], n => n
  | e :: r, n => if n ≤ 400 then hExs r (hEx e n) else n
end
def Ty.sz (t : Ty) : Nat := t.size
mutual
theorem hTy_b : ∀ (t : Ty) (n : Int), 0 ≤ n → n ≤ hTy t n ∧ (hTy t n ≤ 401 ∨ hTy t n = n)
  | .mk _ _ kids, n, h => by rw [hTy]; exact hTys_b kids n h
theorem hTys_b : ∀ (l : List Ty) (n : Int), 0 ≤ n → n ≤ hTys l n ∧ (hTys l n ≤ 401 ∨ hTys l n = n)
  | [], n, h => by rw [hTys]; omega
  | t :: r, n, h => by
    rw [hTys]
    split
    · have h1 := hTy_b t (n + 1) (by omega); have h2 := hTys_b r (hTy t (n + 1)) (by omega)
      omega
    omega
end
mutual
theorem hPa_b : ∀ (p : Pa) (n : Int), 0 ≤ n → 0 ≤ hPa p n ∧ (hPa p n ≤ 401 ∨ hPa p n = n) ∧ (n ≤ hPa p n ∨ hPa p n = 401)
  | .mk _ _ _ nm _ s kids, n, h => by
    rw [hPa]
    split
    · omega
    exact hPas_b 1 kids n (by omega) (by omega) h
theorem hPas_b : ∀ (d : Int) (l : List Pa) (n : Int), 0 ≤ d → d ≤ 1 → 0 ≤ n → 0 ≤ hPas d l n ∧ (hPas d l n ≤ 401 ∨ hPas d l n = n) ∧ (n ≤ hPas d l n ∨ hPas d l n = 401)
  | _, [], n, _, _, h => by rw [hPas]; omega
  | d, p :: r, n, h0, h1, h => by
    rw [hPas]
    split
    · have h2 := hPa_b p (n + d) (by omega); have h3 := hPas_b d r (hPa p (n + d)) h0 h1 (by omega)
      omega
    omega
end
mutual
theorem hEx_b : ∀ (e : Ex) (n : Int), 0 ≤ n → 0 ≤ hEx e n ∧ (hEx e n ≤ 401 ∨ hEx e n ≤ n + 1) ∧ (n + 1 ≤ hEx e n ∨ hEx e n = 401)
  | .mk _ _ _ nm arg _ s _ A B pats kids, n, h => by
    rw [hEx]
    split
    · omega
    have h1 := hTy_b A (n + 1) (by omega); have h2 := hTy_b B (hTy A (n + 1)) (by omega); have h3 := hPas_b 0 pats (hTy B (hTy A (n + 1))) (by omega) (by omega) (by omega); have h4 := hExs_b kids (hPas 0 pats (hTy B (hTy A (n + 1)))) (by omega)
    omega
theorem hExs_b : ∀ (l : List Ex) (n : Int), 0 ≤ n → 0 ≤ hExs l n ∧ (hExs l n ≤ 401 ∨ hExs l n = n) ∧ (n ≤ hExs l n ∨ hExs l n = 401)
  | [], n, h => by rw [hExs]; omega
  | e :: r, n, h => by
    rw [hExs]
    split
    · have h1 := hEx_b e n h; have h2 := hExs_b r (hEx e n) (by omega)
      omega
    omega
end
inductive TyL : Ty → Prop
  | mk {k n : Int} {kids : List Ty} : kids.length ≤ 9223372036854775807 → (∀ t, t ∈ kids → TyL t) → TyL (.mk k n kids)
inductive PaL : Pa → Prop
  | mk {k a b : Int} {nm : List UInt8} {m : Int} {s : List UInt8} {kids : List Pa} : kids.length ≤ 9223372036854775807 → (∀ p, p ∈ kids → PaL p) → PaL (.mk k a b nm m s kids)
inductive ExL : Ex → Prop
  | mk {k a b : Int} {nm arg : List UInt8} {m : Int} {s : List UInt8} {op : Int} {A B : Ty} {pats : List Pa} {kids : List Ex} : TyL A → TyL B → pats.length ≤ 9223372036854775807 → kids.length ≤ 9223372036854775807 → (∀ p, p ∈ pats → PaL p) → (∀ e, e ∈ kids → ExL e) → ExL (.mk k a b nm arg m s op A B pats kids)
theorem hTys_step {l : List Ty} {i : Nat} {x : Ty} {n : Int} (h : l[i]? = some x) (hn : n ≤ 400) : hTys (l.drop i) n = hTys (l.drop (i + 1)) (hTy x (n + 1)) := by
  obtain ⟨hl, rfl⟩ := List.getElem?_eq_some_iff.1 h; rw [List.drop_eq_getElem_cons hl, hTys, if_pos hn]
theorem hTys_stop {l : List Ty} {n : Int} (hn : 400 < n) : hTys l n = n := by
  cases l with
  | nil => rw [hTys]
  | cons _ _ => rw [hTys, if_neg (by omega)]
theorem hPas_step {d : Int} {l : List Pa} {i : Nat} {x : Pa} {n : Int} (h : l[i]? = some x) (hn : n ≤ 400) : hPas d (l.drop i) n = hPas d (l.drop (i + 1)) (hPa x (n + d)) := by
  obtain ⟨hl, rfl⟩ := List.getElem?_eq_some_iff.1 h; rw [List.drop_eq_getElem_cons hl, hPas, if_pos hn]
theorem hPas_stop {d : Int} {l : List Pa} {n : Int} (hn : 400 < n) : hPas d l n = n := by
  cases l with
  | nil => rw [hPas]
  | cons _ _ => rw [hPas, if_neg (by omega)]
theorem hExs_step {l : List Ex} {i : Nat} {x : Ex} {n : Int} (h : l[i]? = some x) (hn : n ≤ 400) : hExs (l.drop i) n = hExs (l.drop (i + 1)) (hEx x n) := by
  obtain ⟨hl, rfl⟩ := List.getElem?_eq_some_iff.1 h; rw [List.drop_eq_getElem_cons hl, hExs, if_pos hn]
theorem hExs_stop {l : List Ex} {n : Int} (hn : 400 < n) : hExs l n = n := by
  cases l with
  | nil => rw [hExs]
  | cons _ _ => rw [hExs, if_neg (by omega)]
theorem exL_parts {t : Ex} (h : ExL t) : TyL t.A ∧ TyL t.B ∧ t.pats.length ≤ 9223372036854775807 ∧ t.kids.length ≤ 9223372036854775807 ∧ (∀ x, x ∈ t.pats → PaL x) ∧ ∀ x, x ∈ t.kids → ExL x := by
  cases h with | mk a b c d e f => exact ⟨a, b, c, d, e, f⟩
theorem get_some5 {α : Type} {l : List α} {i : Nat} (h : i < l.length) : ∃ x, l[i]? = some x := ⟨_, List.getElem?_eq_getElem h⟩

theorem tCountTy {t : Ty} (h : TyL t) : ∀ n : Int, 0 ≤ n → n ≤ 1000 → Con Tryz.prog 49 [.agg (tyE t), .c (.lit (.int .i64 (n)))] [] (.c (.lit (.int .i64 (hTy t n)))) [] := by
  induction h with
  | @mk k nn kids hl hk ih =>
  intro n h0 h1; have hlen : (tysD (Ty.mk k nn kids).kids).length = kids.length := tysD_len kids; have hb := hTys_b kids n h0; rw [hTy]; refine gg [38,5,22,2002,1,0,9,4,2002,4,2,1,31,5,1,0,9,5,2002,5,4,2,1,35] ?_; refine J_loopF (α := { p : Nat × Int // p.1 ≤ kids.length ∧ 0 ≤ p.2 ∧ p.2 ≤ 1000 ∧ hTys (kids.drop p.1) p.2 = hTys kids n }) (fun p => [(1, .c (.lit (.int .i64 p.1.2))), (5, .c (.lit (.int .i64 (p.1.1 : Int))))]) [(2, _), (4, _), (2002, _)] (fun p => kids.length - p.1.1) ⟨(0, n), Nat.zero_le _, by dsimp only; omega, by dsimp only; omega, rfl⟩ ⟨rfl, rfl, rfl, rfl, rfl, trivial⟩ ?_; rintro ⟨⟨i, m⟩, hi, hm0, hm1, hI⟩; dsimp only at hi hm0 hm1 hI ⊢; refine gg [31,5,2,6,2,1,7,18] ?_; refine bL ?_ ?_
  · intro h10; refine gg [2,2] ?_; refine bM ?_ ?_
    · intro h13; obtain ⟨x, hx⟩ := get_some5 (l := kids) (i := i) (by omega); have hxb := hTy_b x (m + 1) (by omega); have hc := ih x (List.mem_of_getElem? hx) (m + 1) (by omega) (by omega); refine gg [16,0,9,14,2002,14,13,12,11,10,9,8,7,6,5,4,2,1,32,34,31,35,37,6,2,1,7,2] ?_; refine u rfl rfl (r_indexAddr (e := 26) (sz := 3) rfl rfl (by kernel_rfl) rfl rfl (by omega) (tysD_at hx)) ?_; refine gg [21,3,2,27] ?_; refine gc (hc) [1,0,9,22,2002,24,23,22,21,20,19,18,17,14,13,12,11,10,9,8,7,6,5,4,2,1,37,2,27,1,0] ?_; refine ⟨⟨(i + 1, hTy x (m + 1)), by dsimp only; omega, by dsimp only; omega, by dsimp only; omega, by dsimp only; rw [← hI]; exact (hTys_step hx (by omega)).symm⟩, by simp only; omega, rfl, rfl, rfl, rfl, rfl, trivial⟩
    intro h13; refine gg [16,0,9,14,2002,14,13,12,11,10,9,8,7,6,5,4,2,1,8,36,5,2,1,0,9,1,4,33] ?_; refine ⟨.inl rfl, _, rfl, .of ?_, trivial⟩; rw [← hI]; first | rw [hTys_stop (by omega)] | (rw [List.drop_eq_nil_of_le (by omega)]; rw [hTys])
  intro h10; refine gg [2,3,3,17,0,9,12,2002,14,11,10,9,8,7,6,5,4,2,1,8,36,5,2,1,0,9,1,4,33] ?_; refine ⟨.inl rfl, _, rfl, .of ?_, trivial⟩; rw [← hI]; first | rw [hTys_stop (by omega)] | (rw [List.drop_eq_nil_of_le (by omega)]; rw [hTys])

theorem tCountPa {t : Pa} (h : PaL t) : ∀ n : Int, 0 ≤ n → n ≤ 1000 → Con Tryz.prog 28 [.agg (paX t), .c (.lit (.int .i64 (n)))] [] (.c (.lit (.int .i64 (hPa t n)))) [] := by
  induction h with
  | @mk k a b nm nn s kids hl hk ih =>
  intro n h0 h1; have hlen : (pasD (Pa.mk k a b nm nn s kids).kids).length = kids.length := pasD_len3 kids; have hb := hPas_b 1 kids n (by omega) (by omega) h0; have e1 : (Pa.mk k a b nm nn s kids).s = s := rfl; have e2 : (Pa.mk k a b nm nn s kids).nm = nm := rfl; rw [hPa]
  by_cases hs : 300 < (s.length : Int)
  · rw [if_pos (.inl hs)]; refine gg [38,5,22,2002,1,0,9,4,2002,4,2,1,31,5,6,5,1,7,30] ?_; refine u rfl rfl ((r_gtI rfl rfl rfl rfl).cast (cast_b (b' := true) (by exact decide_eq_true (by simp only [Pa.s, Pa.nm]; omega)))) ?_; refine gg [2,39,4,16,0,9,5,2002,15,4,2,1,32,5,1,0,9,4,2002,4,2,1,33] ?_; exact ⟨.inl rfl, _, rfl, .refl _, trivial⟩
  by_cases hs2 : 300 < (nm.length : Int)
  · rw [if_pos (.inr hs2)]; refine gg [38,5,22,2002,1,0,9,4,2002,4,2,1,31,5,6,5,1,7,30] ?_; refine u rfl rfl ((r_gtI rfl rfl rfl rfl).cast (cast_b (b' := false) (by exact decide_eq_false (by simp only [Pa.s, Pa.nm]; omega)))) ?_; refine gg [2,6,3,1,7,30] ?_; refine u rfl rfl ((r_gtI rfl rfl rfl rfl).cast (cast_b (b' := true) (by exact decide_eq_true (by simp only [Pa.s, Pa.nm]; omega)))) ?_; refine gg [17,0,9,5,2002,15,4,2,1,32,5,1,0,9,4,2002,4,2,1,33] ?_; exact ⟨.inl rfl, _, rfl, .refl _, trivial⟩
  rw [if_neg (by omega)]; refine gg [38,5,22,2002,1,0,9,4,2002,4,2,1,31,5,6,5,1,7,30] ?_; refine u rfl rfl ((r_gtI rfl rfl rfl rfl).cast (cast_b (b' := false) (by exact decide_eq_false (by simp only [Pa.s, Pa.nm]; omega)))) ?_; refine gg [2,6,3,1,7,30] ?_; refine u rfl rfl ((r_gtI rfl rfl rfl rfl).cast (cast_b (b' := false) (by exact decide_eq_false (by simp only [Pa.s, Pa.nm]; omega)))) ?_; refine gg [17,0,9,5,2002,15,4,2,1,8,34,31,5,1,0,9,5,2002,5,4,2,1,35] ?_; refine J_loopF (α := { p : Nat × Int // p.1 ≤ kids.length ∧ 0 ≤ p.2 ∧ p.2 ≤ 1000 ∧ hPas 1 (kids.drop p.1) p.2 = hPas 1 kids n }) (fun p => [(1, .c (.lit (.int .i64 p.1.2))), (5, .c (.lit (.int .i64 (p.1.1 : Int))))]) [(2, _), (4, _), (2002, _)] (fun p => kids.length - p.1.1) ⟨(0, n), Nat.zero_le _, by dsimp only; omega, by dsimp only; omega, rfl⟩ ⟨rfl, rfl, rfl, rfl, rfl, trivial⟩ ?_; rintro ⟨⟨i, m⟩, hi, hm0, hm1, hI⟩; dsimp only at hi hm0 hm1 hI ⊢
  refine gg [31,5,2,6,6,1,7,18] ?_; refine bL ?_ ?_
  · intro h20; refine gg [2,2] ?_; refine bM ?_ ?_
    · intro h23; obtain ⟨x, hx⟩ := get_some5 (l := kids) (i := i) (by omega); have hxb := hPa_b x (m + 1) (by omega); have hc := ih x (List.mem_of_getElem? hx) (m + 1) (by omega) (by omega); refine gg [16,0,9,14,2002,24,23,22,21,20,19,18,17,16,5,4,2,1,32,34,31,35,37,6,6,1,7,2] ?_; refine u rfl rfl (r_indexAddr (e := 40) (sz := 7) rfl rfl (by kernel_rfl) rfl rfl (by omega) (pas_at3 hx)) ?_; refine gg [21,7,2,27] ?_; refine gc (hc) [1,0,9,22,2002,34,33,32,31,30,29,28,27,24,23,22,21,20,19,18,17,16,5,4,2,1,37,2,27,1,0] ?_; refine ⟨⟨(i + 1, hPa x (m + 1)), by dsimp only; omega, by dsimp only; omega, by dsimp only; omega, by dsimp only; rw [← hI]; exact (hPas_step hx (by omega)).symm⟩, by simp only; omega, rfl, rfl, rfl, rfl, rfl, trivial⟩
    intro h23; refine gg [16,0,9,14,2002,24,23,22,21,20,19,18,17,16,5,4,2,1,8,36,5,2,1,0,9,1,4,33] ?_; refine ⟨.inl rfl, _, rfl, .of ?_, trivial⟩; rw [← hI]; first | rw [hPas_stop (by omega)] | (rw [List.drop_eq_nil_of_le (by omega)]; rw [hPas])
  intro h20; refine gg [2,3,3,17,0,9,12,2002,24,21,20,19,18,17,16,5,4,2,1,8,36,5,2,1,0,9,1,4,33] ?_; refine ⟨.inl rfl, _, rfl, .of ?_, trivial⟩; rw [← hI]; first | rw [hPas_stop (by omega)] | (rw [List.drop_eq_nil_of_le (by omega)]; rw [hPas])

theorem tHeavyPat {t : Pa} (h : PaL t) : Con Tryz.prog 14 [.agg (paX t)] [] (.c (.lit (.bool (decide (400 < hPa t 0))))) [] := by
  have hc := tCountPa h 0 (by omega) (by omega); refine gg [38,5,22,2001,1,0,9,3,2001,2,1,5,20,7] ?_; refine uC (hc) ?_; refine bG ?_ ?_
  · intro h5; refine gg [1,0,9,1,2,33] ?_; refine ⟨.inl rfl, _, rfl, .ofB ?_, trivial⟩; rw [decide_eq_true h5]
  intro h5; refine gg [1,0,9,1,2,33] ?_; refine ⟨.inl rfl, _, rfl, .ofB ?_, trivial⟩; rw [decide_eq_false h5]

theorem tCount {t : Ex} (h : ExL t) : ∀ n : Int, 0 ≤ n → n ≤ 900 → Con Tryz.prog 24 [.agg (exX t), .c (.lit (.int .i64 (n)))] [] (.c (.lit (.int .i64 (hEx t n)))) [] := by
  induction h with
  | @mk k a b nm ag nn s op A B pats kids hA hB hpl hkl hp hk ih =>
  intro n h0 h1; have hlp : (pasD (Ex.mk k a b nm ag nn s op A B pats kids).pats).length = pats.length := pasD_len3 pats; have hlk : (exsD (Ex.mk k a b nm ag nn s op A B pats kids).kids).length = kids.length := exsD_len kids; have b1 := hTy_b A (n + 1) (by omega); have b2 := hTy_b B (hTy A (n + 1)) (by omega); have b3 := hPas_b 0 pats (hTy B (hTy A (n + 1))) (by omega) (by omega) (by omega); have b4 := hExs_b kids (hPas 0 pats (hTy B (hTy A (n + 1)))) (by omega); have cA := tCountTy hA (n + 1) (by omega) (by omega); have cB := tCountTy hB (hTy A (n + 1)) (by omega) (by omega); rw [hEx]; refine gg [38,5,22,2002,1,0,9,4,2002,4,2,1,5,2,27,1,0,9,4,2002,4,2,1,5,6,8,3,20,3,2] ?_; refine gc (cA) [1,0,9,4,2002,4,2,1,5,6,11,3,20,3,2] ?_; refine gc (cB) [1,0,9,4,2002,4,2,1,31,5,1,0,9,5,2002,5,4,2,1,35] ?_; refine J_loopF (α := { p : Nat × Int // p.1 ≤ pats.length ∧ 0 ≤ p.2 ∧ p.2 ≤ 1000 ∧ hPas 0 (pats.drop p.1) p.2 = hPas 0 pats (hTy B (hTy A (n + 1))) }) (fun p => [(1, .c (.lit (.int .i64 p.1.2))), (5, .c (.lit (.int .i64 (p.1.1 : Int))))]) [(2, _), (4, _), (2002, _)] (fun p => pats.length - p.1.1) ⟨(0, (hTy B (hTy A (n + 1)))), Nat.zero_le _, by dsimp only; omega, by dsimp only; omega, rfl⟩ ⟨rfl, rfl, rfl, rfl, rfl, trivial⟩ ?_
  rintro ⟨⟨i, m⟩, hi, hm0, hm1, hI⟩; dsimp only at hi hm0 hm1 hI ⊢; refine gg [31,5,2,6,14,1,7,18] ?_; refine bL ?_ ?_
  · intro h21; refine gg [2,2] ?_; refine bM ?_ ?_
    · intro h24; obtain ⟨x, hx⟩ := get_some5 (l := pats) (i := i) (by omega); have hxb := hPa_b x m (by omega); have hc := tCountPa (hp x (List.mem_of_getElem? hx)) m (by omega) (by omega); refine gg [16,0,9,14,2002,25,24,23,22,21,20,19,18,17,5,4,2,1,32,34,31,35,37,6,14,1,7,2] ?_; refine u rfl rfl (r_indexAddr (e := 40) (sz := 7) rfl rfl (by kernel_rfl) rfl rfl (by omega) (pas_at3 hx)) ?_; refine gg [21,7,2] ?_; refine gc (hc) [1,0,9,21,2002,34,33,32,31,30,29,28,25,24,23,22,21,20,19,18,17,5,4,2,1,37,2,27,1,0] ?_; refine ⟨⟨(i + 1, hPa x m), by dsimp only; omega, by dsimp only; omega, by dsimp only; omega, by dsimp only; rw [← hI]; have := hPas_step (d := 0) hx (n := m) (by omega); rw [Int.add_zero] at this; exact this.symm⟩, by simp only; omega, rfl, rfl, rfl, rfl, rfl, trivial⟩
    intro h24; first | rw [hPas_stop (by omega)] at hI | (rw [List.drop_eq_nil_of_le (by omega), hPas] at hI)
    subst hI; refine gg [16,0,9,14,2002,25,24,23,22,21,20,19,18,17,5,4,2,1,8,36,31,5,1,0,9,5,2002,6,4,2,1,35] ?_; refine J_loopF (α := { p : Nat × Int // p.1 ≤ kids.length ∧ 0 ≤ p.2 ∧ p.2 ≤ 1000 ∧ hExs (kids.drop p.1) p.2 = hExs kids (hPas 0 pats (hTy B (hTy A (n + 1)))) }) (fun p => [(1, .c (.lit (.int .i64 p.1.2))), (6, .c (.lit (.int .i64 (p.1.1 : Int))))]) [(2, _), (4, _), (2002, _)] (fun p => kids.length - p.1.1) ⟨(0, (hPas 0 pats (hTy B (hTy A (n + 1))))), Nat.zero_le _, by dsimp only; omega, by dsimp only; omega, rfl⟩ ⟨rfl, rfl, rfl, rfl, rfl, trivial⟩ ?_; rintro ⟨⟨i, m⟩, hi, hm0, hm1, hI⟩; dsimp only at hi hm0 hm1 hI ⊢; refine gg [31,5,2,6,15,1,7,18] ?_; refine bL ?_ ?_
    · intro h39; refine gg [2,2] ?_; refine bM ?_ ?_
      · intro h42; obtain ⟨x, hx⟩ := get_some5 (l := kids) (i := i) (by omega); have hxb := hEx_b x m (by omega); have hc := ih x (List.mem_of_getElem? hx) m (by omega) (by omega); refine gg [16,0,9,14,2002,43,42,41,40,39,38,37,36,35,6,4,2,1,32,34,31,35,37,6,15,1,7,2] ?_; refine u rfl rfl (r_indexAddr (e := 30) (sz := 16) rfl rfl (by kernel_rfl) rfl rfl (by omega) (exs_at3 hx)) ?_; refine gg [21,16,2] ?_; refine gc (hc) [1,0,9,21,2002,52,51,50,49,48,47,46,43,42,41,40,39,38,37,36,35,6,4,2,1,37,2,27,1,0] ?_; refine ⟨⟨(i + 1, hEx x m), by dsimp only; omega, by dsimp only; omega, by dsimp only; omega, by dsimp only; rw [← hI]; exact (hExs_step hx (by omega)).symm⟩, by simp only; omega, rfl, rfl, rfl, rfl, rfl, trivial⟩
      intro h42; first | rw [hExs_stop (by omega)] at hI | (rw [List.drop_eq_nil_of_le (by omega), hExs] at hI)
      subst hI; refine gg [16,0,9,14,2002,43,42,41,40,39,38,37,36,35,6,4,2,1,8,36,31,5,6,6,1,7,30] ?_; refine bG ?_ ?_
      · intro h56; refine gg [2,39,4,16,2,39,4,16,0,9,3,68,4,1,32,37,1,0,9,2,4,1,5,2,1,0,9,1,4,33] ?_; refine ⟨.inl rfl, _, rfl, .of ?_, trivial⟩; first | rw [if_pos (by simp only [Ex.s, Ex.nm, Ex.arg] at *; omega)] | rw [if_neg (by simp only [Ex.s, Ex.nm, Ex.arg] at *; omega)]
      intro h56; refine gg [2,6,3,1,7,30] ?_; refine bG ?_ ?_
      · intro h61; refine gg [17,2,39,4,16,0,9,3,68,4,1,32,37,1,0,9,2,4,1,5,2,1,0,9,1,4,33] ?_; refine ⟨.inl rfl, _, rfl, .of ?_, trivial⟩; first | rw [if_pos (by simp only [Ex.s, Ex.nm, Ex.arg] at *; omega)] | rw [if_neg (by simp only [Ex.s, Ex.nm, Ex.arg] at *; omega)]
      intro h61; refine gg [17,2,6,4,1,7,30] ?_; refine bG ?_ ?_
      · intro h67; refine gg [17,0,9,3,68,4,1,32,37,1,0,9,2,4,1,5,2,1,0,9,1,4,33] ?_; refine ⟨.inl rfl, _, rfl, .of ?_, trivial⟩; first | rw [if_pos (by simp only [Ex.s, Ex.nm, Ex.arg] at *; omega)] | rw [if_neg (by simp only [Ex.s, Ex.nm, Ex.arg] at *; omega)]
      intro h67; refine gg [17,0,9,3,68,4,1,8,34,5,2,1,0,9,1,4,33] ?_; refine ⟨.inl rfl, _, rfl, .of ?_, trivial⟩; first | rw [if_pos (by simp only [Ex.s, Ex.nm, Ex.arg] at *; omega)] | rw [if_neg (by simp only [Ex.s, Ex.nm, Ex.arg] at *; omega)]
    intro h39; first | rw [hExs_stop (by omega)] at hI | (rw [List.drop_eq_nil_of_le (by omega), hExs] at hI)
    subst hI; refine gg [2,3,3,17,0,9,12,2002,43,40,39,38,37,36,35,6,4,2,1,8,36,31,5,6,6,1,7,30] ?_; refine bG ?_ ?_
    · intro h56; refine gg [2,39,4,16,2,39,4,16,0,9,3,68,4,1,32,37,1,0,9,2,4,1,5,2,1,0,9,1,4,33] ?_; refine ⟨.inl rfl, _, rfl, .of ?_, trivial⟩; first | rw [if_pos (by simp only [Ex.s, Ex.nm, Ex.arg] at *; omega)] | rw [if_neg (by simp only [Ex.s, Ex.nm, Ex.arg] at *; omega)]
    intro h56; refine gg [2,6,3,1,7,30] ?_; refine bG ?_ ?_
    · intro h61; refine gg [17,2,39,4,16,0,9,3,68,4,1,32,37,1,0,9,2,4,1,5,2,1,0,9,1,4,33] ?_; refine ⟨.inl rfl, _, rfl, .of ?_, trivial⟩; first | rw [if_pos (by simp only [Ex.s, Ex.nm, Ex.arg] at *; omega)] | rw [if_neg (by simp only [Ex.s, Ex.nm, Ex.arg] at *; omega)]
    intro h61; refine gg [17,2,6,4,1,7,30] ?_; refine bG ?_ ?_
    · intro h67; refine gg [17,0,9,3,68,4,1,32,37,1,0,9,2,4,1,5,2,1,0,9,1,4,33] ?_; refine ⟨.inl rfl, _, rfl, .of ?_, trivial⟩; first | rw [if_pos (by simp only [Ex.s, Ex.nm, Ex.arg] at *; omega)] | rw [if_neg (by simp only [Ex.s, Ex.nm, Ex.arg] at *; omega)]
    intro h67; refine gg [17,0,9,3,68,4,1,8,34,5,2,1,0,9,1,4,33] ?_; refine ⟨.inl rfl, _, rfl, .of ?_, trivial⟩; first | rw [if_pos (by simp only [Ex.s, Ex.nm, Ex.arg] at *; omega)] | rw [if_neg (by simp only [Ex.s, Ex.nm, Ex.arg] at *; omega)]
  intro h21; first | rw [hPas_stop (by omega)] at hI | (rw [List.drop_eq_nil_of_le (by omega), hPas] at hI)
  subst hI; refine gg [2,3,3,17,0,9,12,2002,25,22,21,20,19,18,17,5,4,2,1,8,36,31,5,1,0,9,5,2002,6,4,2,1,35] ?_; refine J_loopF (α := { p : Nat × Int // p.1 ≤ kids.length ∧ 0 ≤ p.2 ∧ p.2 ≤ 1000 ∧ hExs (kids.drop p.1) p.2 = hExs kids (hPas 0 pats (hTy B (hTy A (n + 1)))) }) (fun p => [(1, .c (.lit (.int .i64 p.1.2))), (6, .c (.lit (.int .i64 (p.1.1 : Int))))]) [(2, _), (4, _), (2002, _)] (fun p => kids.length - p.1.1) ⟨(0, (hPas 0 pats (hTy B (hTy A (n + 1))))), Nat.zero_le _, by dsimp only; omega, by dsimp only; omega, rfl⟩ ⟨rfl, rfl, rfl, rfl, rfl, trivial⟩ ?_; rintro ⟨⟨i, m⟩, hi, hm0, hm1, hI⟩; dsimp only at hi hm0 hm1 hI ⊢; refine gg [31,5,2,6,15,1,7,18] ?_; refine bL ?_ ?_
  · intro h39; refine gg [2,2] ?_; refine bM ?_ ?_
    · intro h42; obtain ⟨x, hx⟩ := get_some5 (l := kids) (i := i) (by omega); have hxb := hEx_b x m (by omega); have hc := ih x (List.mem_of_getElem? hx) m (by omega) (by omega); refine gg [16,0,9,14,2002,43,42,41,40,39,38,37,36,35,6,4,2,1,32,34,31,35,37,6,15,1,7,2] ?_; refine u rfl rfl (r_indexAddr (e := 30) (sz := 16) rfl rfl (by kernel_rfl) rfl rfl (by omega) (exs_at3 hx)) ?_; refine gg [21,16,2] ?_; refine gc (hc) [1,0,9,21,2002,52,51,50,49,48,47,46,43,42,41,40,39,38,37,36,35,6,4,2,1,37,2,27,1,0] ?_; refine ⟨⟨(i + 1, hEx x m), by dsimp only; omega, by dsimp only; omega, by dsimp only; omega, by dsimp only; rw [← hI]; exact (hExs_step hx (by omega)).symm⟩, by simp only; omega, rfl, rfl, rfl, rfl, rfl, trivial⟩
    intro h42; first | rw [hExs_stop (by omega)] at hI | (rw [List.drop_eq_nil_of_le (by omega), hExs] at hI)
    subst hI; refine gg [16,0,9,14,2002,43,42,41,40,39,38,37,36,35,6,4,2,1,8,36,31,5,6,6,1,7,30] ?_; refine bG ?_ ?_
    · intro h56; refine gg [2,39,4,16,2,39,4,16,0,9,3,68,4,1,32,37,1,0,9,2,4,1,5,2,1,0,9,1,4,33] ?_; refine ⟨.inl rfl, _, rfl, .of ?_, trivial⟩; first | rw [if_pos (by simp only [Ex.s, Ex.nm, Ex.arg] at *; omega)] | rw [if_neg (by simp only [Ex.s, Ex.nm, Ex.arg] at *; omega)]
    intro h56; refine gg [2,6,3,1,7,30] ?_; refine bG ?_ ?_
    · intro h61; refine gg [17,2,39,4,16,0,9,3,68,4,1,32,37,1,0,9,2,4,1,5,2,1,0,9,1,4,33] ?_; refine ⟨.inl rfl, _, rfl, .of ?_, trivial⟩; first | rw [if_pos (by simp only [Ex.s, Ex.nm, Ex.arg] at *; omega)] | rw [if_neg (by simp only [Ex.s, Ex.nm, Ex.arg] at *; omega)]
    intro h61; refine gg [17,2,6,4,1,7,30] ?_; refine bG ?_ ?_
    · intro h67; refine gg [17,0,9,3,68,4,1,32,37,1,0,9,2,4,1,5,2,1,0,9,1,4,33] ?_; refine ⟨.inl rfl, _, rfl, .of ?_, trivial⟩; first | rw [if_pos (by simp only [Ex.s, Ex.nm, Ex.arg] at *; omega)] | rw [if_neg (by simp only [Ex.s, Ex.nm, Ex.arg] at *; omega)]
    intro h67; refine gg [17,0,9,3,68,4,1,8,34,5,2,1,0,9,1,4,33] ?_; refine ⟨.inl rfl, _, rfl, .of ?_, trivial⟩; first | rw [if_pos (by simp only [Ex.s, Ex.nm, Ex.arg] at *; omega)] | rw [if_neg (by simp only [Ex.s, Ex.nm, Ex.arg] at *; omega)]
  intro h39; first | rw [hExs_stop (by omega)] at hI | (rw [List.drop_eq_nil_of_le (by omega), hExs] at hI)
  subst hI; refine gg [2,3,3,17,0,9,12,2002,43,40,39,38,37,36,35,6,4,2,1,8,36,31,5,6,6,1,7,30] ?_; refine bG ?_ ?_
  · intro h56; refine gg [2,39,4,16,2,39,4,16,0,9,3,68,4,1,32,37,1,0,9,2,4,1,5,2,1,0,9,1,4,33] ?_; refine ⟨.inl rfl, _, rfl, .of ?_, trivial⟩; first | rw [if_pos (by simp only [Ex.s, Ex.nm, Ex.arg] at *; omega)] | rw [if_neg (by simp only [Ex.s, Ex.nm, Ex.arg] at *; omega)]
  intro h56; refine gg [2,6,3,1,7,30] ?_; refine bG ?_ ?_
  · intro h61; refine gg [17,2,39,4,16,0,9,3,68,4,1,32,37,1,0,9,2,4,1,5,2,1,0,9,1,4,33] ?_; refine ⟨.inl rfl, _, rfl, .of ?_, trivial⟩; first | rw [if_pos (by simp only [Ex.s, Ex.nm, Ex.arg] at *; omega)] | rw [if_neg (by simp only [Ex.s, Ex.nm, Ex.arg] at *; omega)]
  intro h61; refine gg [17,2,6,4,1,7,30] ?_; refine bG ?_ ?_
  · intro h67; refine gg [17,0,9,3,68,4,1,32,37,1,0,9,2,4,1,5,2,1,0,9,1,4,33] ?_; refine ⟨.inl rfl, _, rfl, .of ?_, trivial⟩; first | rw [if_pos (by simp only [Ex.s, Ex.nm, Ex.arg] at *; omega)] | rw [if_neg (by simp only [Ex.s, Ex.nm, Ex.arg] at *; omega)]
  intro h67; refine gg [17,0,9,3,68,4,1,8,34,5,2,1,0,9,1,4,33] ?_; refine ⟨.inl rfl, _, rfl, .of ?_, trivial⟩; first | rw [if_pos (by simp only [Ex.s, Ex.nm, Ex.arg] at *; omega)] | rw [if_neg (by simp only [Ex.s, Ex.nm, Ex.arg] at *; omega)]

def hLst : List Ex → Int → Int
  | [], n => n
  | e :: r, n => hLst r (hEx e n)
theorem hLst_step {l : List Ex} {i : Nat} {x : Ex} {n : Int} (h : l[i]? = some x) : hLst (l.drop i) n = hLst (l.drop (i + 1)) (hEx x n) := by
  obtain ⟨hl, rfl⟩ := List.getElem?_eq_some_iff.1 h; rw [List.drop_eq_getElem_cons hl, hLst]
theorem tHeavy (l : List Ex) (hl : l.length ≤ 100) (h : ∀ e, e ∈ l → ExL e) : Con Tryz.prog 9 [.c (.sl 16 (exsD l))] [] (.c (.lit (.bool (decide (400 < hLst l 0))))) [] := by
  have hlen := exsD_len l; refine gg [38,5,1,0,9,2,2,0,5,1,0,9,3,3,2,0,31,5,1,0,9,4,4,3,2,0,35] ?_; refine J_loopF (α := { p : Nat × Int // p.1 ≤ l.length ∧ 0 ≤ p.2 ∧ p.2 ≤ 401 + p.1 ∧ hLst (l.drop p.1) p.2 = hLst l 0 }) (fun p => [(3, .c (.lit (.int .i64 p.1.2))), (4, .c (.lit (.int .i64 (p.1.1 : Int))))]) [(0, _), (2, _)] (fun p => l.length - p.1.1) ⟨(0, 0), Nat.zero_le _, by dsimp only; omega, by dsimp only; omega, rfl⟩ ⟨rfl, rfl, rfl, rfl, trivial⟩ ?_; rintro ⟨⟨i, m⟩, hi, hm0, hm1, hI⟩; dsimp only at hi hm0 hm1 hI ⊢; refine gg [31,5,2,2,18] ?_; refine bL ?_ ?_
  · intro h8; obtain ⟨x, hx⟩ := get_some5 (l := l) (i := i) (by omega); have hxb := hEx_b x m (by omega); have hc := tCount (h x (List.mem_of_getElem? hx)) m (by omega) (by omega); refine gg [0,9,8,8,7,6,5,4,3,2,0,32,34,31,35,37,2,2] ?_; refine u rfl rfl (r_indexAddr (e := 30) (sz := 16) rfl rfl (by kernel_rfl) rfl rfl (by omega) (exs_at3 hx)) ?_; refine gg [21,16,2] ?_; refine gc (hc) [1,0,9,14,16,15,14,13,12,11,8,7,6,5,4,3,2,0,37,2,27,1,0] ?_; refine ⟨⟨(i + 1, hEx x m), by dsimp only; omega, by dsimp only; omega, by dsimp only; omega, by dsimp only; rw [← hI]; exact (hLst_step hx).symm⟩, by simp only; omega, rfl, rfl, rfl, rfl, trivial⟩
  intro h8; refine gg [0,9,8,8,7,6,5,4,3,2,0,8,36,5,2] ?_; refine bG ?_ ?_
  · intro h18; refine gg [1,0,9,1,2,33] ?_; refine ⟨.inl rfl, _, rfl, .ofB ?_, trivial⟩; rw [← hI, List.drop_eq_nil_of_le (by omega), hLst]; rw [decide_eq_true h18]
  intro h18; refine gg [1,0,9,1,2,33] ?_; refine ⟨.inl rfl, _, rfl, .ofB ?_, trivial⟩; rw [← hI, List.drop_eq_nil_of_le (by omega), hLst]; rw [decide_eq_false h18]


end Go.Proofs.YtlagglkpbnbmeaaGreatDoor

/- The page's own answers on right expressions: names, types, one expression. -/
namespace Go.Proofs.YtlagglkpbnbmeaaGreatDoor
open Go Go.RowKit
set_option maxRecDepth 100000
set_option maxHeartbeats 4000000
set_option linter.unusedVariables false
set_option linter.unusedSimpArgs false

theorem r_quoI {P : Program} {o : Oper} {d : Nat} {l : List (Nat × F)} {T T' : TypeId} {x y : Operand} {k : IntKind} {i j : Int} (ho : o.op = .binOp .quo T x y T') (hd : o.dst = some d) (hx : opd l x = some (.c (.lit (.int k i)))) (hy : opd l y = some (.c (.lit (.int k j)))) (hj : j ≠ 0) :
    Does P o (rdOf x ++ rdOf y) [] l [(d, .c (.lit (.int k (k.wrap (i.tdiv j)))))] :=
  r_bin ho hd hx hy rfl fun w => by simp [eqGuard, binOp, Op.intDiv, hj]
theorem rName (s : List UInt8) (hs : s.length ≤ 1000000000) : Con Tryz.prog 53 [.c (.lit (str s))] [] (.c (.lit (.bool (mName s)))) [] := by
  refine con_below (by simp [Flat]) trivial (by simp) fun S w args B hsz harg hS htt hB => ?_
  rw [args_one hsz (lit_val (ρ := fun _ => 0) (harg 0 _ rfl))]; refine (refName_any s w (by omega)).mono ?_; rintro e w' ⟨rfl, rfl⟩; exact ⟨_, rfl, Below.refl _ _, fun _ _ _ => .lit _ rfl⟩
theorem rNone (t : Ty) : Con Tryz.prog 87 [.agg (tyE t)] [] (.c (.lit (.bool (mNone t)))) [] := by
  have hl := tysD_len (t.kids); refine gg [38,5,22,2001,1,0,9,3,2001,2,1,5,6,0,1,7] ?_; refine bE ?_ ?_
  · intro h5; refine gg [2,6,1,1,7] ?_; refine bE ?_ ?_
    · intro h9; refine gg [16,2,6,2,1,7,18] ?_; refine bE ?_ ?_
      · intro h15; refine gg [16,1,0,9,1,2,33] ?_; refine ⟨.inl rfl, _, rfl, .ofB ?_, trivial⟩; first | (simp_all [mNone, tyX]; done) | (simp_all [mNone, tyX]; omega)
      intro h15; refine gg [16,1,0,9,1,2,33] ?_; refine ⟨.inl rfl, _, rfl, .ofB ?_, trivial⟩; first | (simp_all [mNone, tyX]; done) | (simp_all [mNone, tyX]; omega)
    intro h9; refine gg [16,2,39,4,17,1,0,9,1,2,33] ?_; refine ⟨.inl rfl, _, rfl, .ofB ?_, trivial⟩; first | (simp_all [mNone, tyX]; done) | (simp_all [mNone, tyX]; omega)
  intro h5; refine gg [2,39,3,17,2,39,4,17,1,0,9,1,2,33] ?_; refine ⟨.inl rfl, _, rfl, .ofB ?_, trivial⟩; first | (simp_all [mNone, tyX]; done) | (simp_all [mNone, tyX]; omega)

theorem kRSame : ∀ (m : Nat) (t b : Ty), m ≤ 1000000000 → t.size ≤ m → Con Tryz.prog 51 [.agg (tyE t), .agg (tyE b)] [] (.c (.lit (.bool (mSame t b)))) []
  | 0, t, b, _, h => absurd t.size_pos (by omega)
  | m + 1, t, b, hm, h => by
    have hk := t.kids_lt; have hl := tysD_len (t.kids); have hlb := tysD_len (b.kids); refine gg [38,5,22,2002,22,2003,1,0,9,5,2003,2002,4,3,2,31,5,6,0,1,7,6,0,1,7] ?_; refine bN ?_ ?_
    · intro h10; refine gg [2,39,5,16,2,39,7,16,0,9,6,2003,2002,26,4,3,2,32,5,1,0,9,5,2003,2002,4,3,2,33] ?_; refine ⟨.inl rfl, _, rfl, .ofB (Bool.eq_false_iff.2 fun e => ?_), trivial⟩; rw [mSame_eq, Bool.and_eq_true, Bool.and_eq_true] at e; have e1 := of_decide_eq_true e.1.1; have e2 := of_decide_eq_true e.1.2; have := mSames_len _ _ e.2
      omega
    intro h10; refine gg [2,6,1,1,7,6,1,1,7] ?_; refine bN ?_ ?_
    · intro h16; refine gg [17,2,39,7,16,0,9,6,2003,2002,26,4,3,2,32,5,1,0,9,5,2003,2002,4,3,2,33] ?_; refine ⟨.inl rfl, _, rfl, .ofB (Bool.eq_false_iff.2 fun e => ?_), trivial⟩; rw [mSame_eq, Bool.and_eq_true, Bool.and_eq_true] at e; have e1 := of_decide_eq_true e.1.1; have e2 := of_decide_eq_true e.1.2; have := mSames_len _ _ e.2
      omega
    intro h16; refine gg [17,2,6,2,1,7,18,6,2,1,7,18] ?_; refine bN ?_ ?_
    · intro h25; refine gg [17,0,9,6,2003,2002,26,4,3,2,32,5,1,0,9,5,2003,2002,4,3,2,33] ?_; refine ⟨.inl rfl, _, rfl, .ofB (Bool.eq_false_iff.2 fun e => ?_), trivial⟩; rw [mSame_eq, Bool.and_eq_true, Bool.and_eq_true] at e; have e1 := of_decide_eq_true e.1.1; have e2 := of_decide_eq_true e.1.2; have := mSames_len _ _ e.2
      omega
    intro h25; refine gg [17,0,9,6,2003,2002,26,4,3,2,8,34,31,5,1,0,9,6,2003,2002,5,4,3,2,35] ?_; refine J_loopF (α := { i : Nat // i ≤ t.kids.length ∧ mSames t.kids b.kids = mSames (t.kids.drop i) (b.kids.drop i) }) (fun p => [(5, .c (.lit (.int .i64 (p.1 : Int))))]) [(2, _), (3, _), (4, _), (2002, _), (2003, _)] (fun p => t.kids.length - p.1) ⟨0, Nat.zero_le _, rfl⟩ ⟨rfl, rfl, rfl, rfl, rfl, rfl, trivial⟩ ?_; rintro ⟨i, hi, hI⟩; dsimp only; refine gg [31,5,2,6,2,1,7,18] ?_; refine bL ?_ ?_
    · intro h31; obtain ⟨x, hx⟩ := get_some (l := t.kids) (i := i) (by omega); have hxs := Ty.kid_lt' hx; obtain ⟨y, hy⟩ := get_some (l := b.kids) (i := i) (by omega); refine gg [0,9,11,2003,2002,31,30,29,28,27,5,4,3,2,32,34,31,35,5,6,2,1,7,2] ?_; refine u rfl rfl (r_indexAddr (e := 26) (sz := 3) rfl rfl (by kernel_rfl) rfl rfl (by omega) (tysD_at hx)) ?_; refine gg [21,3,6,2,1,7,2] ?_; refine u rfl rfl (r_indexAddr (e := 26) (sz := 3) rfl rfl (by kernel_rfl) rfl rfl (by omega) (tysD_at hy)) ?_; refine gg [21,3] ?_; refine JR.runC rfl rfl (cl (kRSame m x y (by omega) (by omega))) rfl ?_ ?_
      · intro h44; refine gg [15,4,9,23,2003,2002,45,44,43,42,41,40,39,38,37,36,35,34,31,30,29,28,27,5,4,3,2,8,34,37,2,27,1,0] ?_; refine ⟨⟨i + 1, by omega, by rw [hI, drop_get hx, drop_get hy, mSames, h44, Bool.true_and]⟩, by simp only; omega, rfl, rfl, rfl, rfl, rfl, rfl, trivial⟩
      intro h44; refine gg [15,4,9,23,2003,2002,45,44,43,42,41,40,39,38,37,36,35,34,31,30,29,28,27,5,4,3,2,32,5,1,0,9,23,2003,2002,45,44,43,42,41,40,39,38,37,36,35,34,31,30,29,28,27,5,4,3,2,33] ?_; refine ⟨.inl rfl, _, rfl, .ofB ?_, trivial⟩; have e1 : mSames t.kids b.kids = false := by rw [hI, drop_get hx, drop_get hy, mSames, h44, Bool.false_and]
      rw [mSame_eq, e1, Bool.and_false]
    intro h31; refine gg [0,9,11,2003,2002,31,30,29,28,27,5,4,3,2,8,36,5,1,0,9,1,4,33] ?_; refine ⟨.inl rfl, _, rfl, .ofB ?_, trivial⟩; rw [List.drop_eq_nil_of_le (by omega), List.drop_eq_nil_of_le (by omega), mSames] at hI; rw [mSame_eq, hI]
    simp_all

def mNote (t : Ty) (may : Bool) : Bool := if mNone t then may else mRight t && mWithout 6 t
theorem rNote (t : Ty) (may : Bool) (h : t.size ≤ 100000) : Con Tryz.prog 52 [.agg (tyE t), .c (.lit (.bool may))] [] (.c (.lit (.bool (mNote t may)))) [] := by
  have hN := rNone t; have hR := kRight t.size t (by omega) (Nat.le_refl _); have hW := kWithout 6 t.size t (by omega) (Nat.le_refl _); unfold mNote; refine gg [38,5,22,2002,1,0,9,4,2002,4,2,1,31,5,20,3] ?_; refine JR.runC rfl rfl (cl (hN)) rfl ?_ ?_
  · intro h6; refine gg [0,9,5,2002,6,4,2,1,32,5,2,1,0,9,3,2002,4,2,33] ?_; refine ⟨.inl rfl, _, rfl, .ofB ?_, trivial⟩
    simp_all
  intro h6; refine gg [0,9,5,2002,6,4,2,1,8,34,5,20,3] ?_; refine JR.runC rfl rfl (cl (hR)) rfl ?_ ?_
  · intro h9; refine gg [2,20,3] ?_; refine JR.runC rfl rfl (cl (hW)) rfl ?_ ?_
    · intro h12; refine gg [16,1,0,9,1,4,33] ?_; refine ⟨.inl rfl, _, rfl, .ofB ?_, trivial⟩
      simp_all
    intro h12; refine gg [16,1,0,9,1,4,33] ?_; refine ⟨.inl rfl, _, rfl, .ofB ?_, trivial⟩
    simp_all
  intro h9; refine gg [2,3,3,17,1,0,9,1,4,33] ?_; refine ⟨.inl rfl, _, rfl, .ofB ?_, trivial⟩
  simp_all


end Go.Proofs.YtlagglkpbnbmeaaGreatDoor

/- The page's own answers on right expressions: the fields of a kind, one expression. -/
namespace Go.Proofs.YtlagglkpbnbmeaaGreatDoor
open Go Go.RowKit
set_option maxRecDepth 100000
set_option maxHeartbeats 4000000
set_option linter.unusedVariables false
set_option linter.unusedSimpArgs false

def fldE (e : Ex) : Ex := if e.kind = 1 then .mk e.kind 0 0 e.nm [] 0 [] 0 noTy noTy [] [] else if e.kind = 2 then .mk e.kind 0 0 [] [] e.n [] 0 noTy noTy [] [] else if e.kind = 3 then .mk e.kind 0 0 [] [] e.n [] 0 noTy noTy [] [] else if e.kind = 4 then .mk e.kind 0 0 [] [] 0 e.s 0 noTy noTy [] [] else if e.kind = 5 then .mk e.kind 0 0 [] [] 0 [] 0 noTy noTy [] [] else if e.kind = 7 then .mk e.kind 0 0 [] [] 0 [] 0 noTy noTy [] [] else if e.kind = 6 then .mk e.kind 0 0 [] [] 0 [] 0 noTy noTy [] [] else if e.kind = 8 then .mk e.kind 0 0 [] [] 0 [] 0 noTy noTy [] [] else if e.kind = 10 then .mk e.kind 0 0 [] [] 0 [] 0 noTy noTy [] [] else if e.kind = 9 then .mk e.kind 0 0 e.nm [] 0 [] 0 e.A noTy [] [] else if e.kind = 11 then .mk e.kind 0 0 e.nm [] 0 [] 0 e.A noTy [] [] else if e.kind = 12 then .mk e.kind 0 0 e.nm e.arg 0 [] 0 e.A e.B [] [] else if e.kind = 13 then .mk e.kind 0 0 [] [] 0 [] 0 noTy noTy [] [] else if e.kind = 14 then .mk e.kind 0 0 [] [] 0 [] 0 noTy noTy e.pats [] else if e.kind = 15 then .mk e.kind 0 0 [] [] 0 [] 0 e.A noTy [] [] else if e.kind = 16 then .mk e.kind 0 0 [] [] 0 [] e.op noTy noTy [] [] else .mk e.kind 0 0 [] [] 0 [] 0 noTy noTy [] []
def fldK (e : Ex) : Int := if e.kind = 1 then 0 else if e.kind = 2 then 0 else if e.kind = 3 then 0 else if e.kind = 4 then 0 else if e.kind = 5 then 0 else if e.kind = 7 then 0 else if e.kind = 6 then 2 else if e.kind = 8 then 2 else if e.kind = 10 then 2 else if e.kind = 9 then 1 else if e.kind = 11 then 2 else if e.kind = 12 then 2 else if e.kind = 13 then 3 else if e.kind = 14 then IntKind.i64.wrap (1 + (e.pats.length : Int)) else if e.kind = 15 then 1 else if e.kind = 16 then 2 else -1
theorem rFields (e : Ex) : Con Tryz.prog 50 [.agg (exX e)] [] (.tup [.agg (exX (fldE e)), .c (.lit (.int .i64 (fldK e)))]) [] := by
  have hl := pasD_len3 e.pats; refine gg [38,5,22,2001,23,2002,1,0,9,5,2002,2001,3,2,1,5,6,0,1,7] ?_; refine u rfl rfl (r_build (zs := zx) (qs := [(0, 1), (1, 2), (3, 1), (4, 1), (5, 1), (6, 1), (7, 1), (8, 3), (11, 3), (14, 1), (15, 1)]) dx rfl rfl (by kernel_rfl) (by kernel_rfl) kx rfl rfl) ?_; refine gg [23,2004,10,0,9,7,2004,2002,2001,4,3,2,1,5,1,0,9,8,2004,2002,2001,5,4,3,2,1,31,5,6,0,1,7,0,9,9,2004,2002,2001,10,5,4,3,2,1,35,5] ?_; refine bE ?_ ?_
  · intro h12; refine gg [1,0,9,10,2004,2002,2001,11,10,5,4,3,2,1,32,37,6,3,1,7,6,3,1,11,0,9,6,2004,2002,5,4,3,2,5,20,16,2,10,1,0,9,3,2002,3,2,33] ?_; have hf : fldE e = .mk e.kind 0 0 e.nm [] 0 [] 0 noTy noTy [] [] := by rw [fldE, if_pos h12]
    have hq : fldK e = 0 := by rw [fldK, if_pos h12]
    rw [hf, hq]; exact ⟨.inl rfl, _, rfl, .refl _, trivial⟩
  intro h12; refine gg [1,0,9,10,2004,2002,2001,11,10,5,4,3,2,1,8,31,5] ?_; refine bE ?_ ?_
  · intro h17; refine gg [1,0,9,10,2004,2002,2001,16,10,5,4,3,2,1,32,34,32,37,6,5,1,7,6,5,1,11,0,9,6,2004,2002,5,4,3,2,5,20,16,2,10,1,0,9,3,2002,3,2,33] ?_; have hf : fldE e = .mk e.kind 0 0 [] [] e.n [] 0 noTy noTy [] [] := by rw [fldE, if_neg h12, if_pos h17]
    have hq : fldK e = 0 := by rw [fldK, if_neg h12, if_pos h17]
    rw [hf, hq]; exact ⟨.inl rfl, _, rfl, .refl _, trivial⟩
  intro h17; refine gg [1,0,9,10,2004,2002,2001,16,10,5,4,3,2,1,8,37] ?_; refine bE ?_ ?_
  · intro h18; refine gg [1,0,9,10,2004,2002,2001,16,10,5,4,3,2,1,32,37,6,5,1,7,6,5,1,11,0,9,6,2004,2002,5,4,3,2,5,20,16,2,10,1,0,9,3,2002,3,2,33] ?_; have hf : fldE e = .mk e.kind 0 0 [] [] e.n [] 0 noTy noTy [] [] := by rw [fldE, if_neg h12, if_neg h17, if_pos h18]
    have hq : fldK e = 0 := by rw [fldK, if_neg h12, if_neg h17, if_pos h18]
    rw [hf, hq]; exact ⟨.inl rfl, _, rfl, .refl _, trivial⟩
  intro h18; refine gg [1,0,9,10,2004,2002,2001,16,10,5,4,3,2,1,8,5] ?_; refine bE ?_ ?_
  · intro h23; refine gg [1,0,9,10,2004,2002,2001,22,10,5,4,3,2,1,32,37,6,6,1,7,6,6,1,11,0,9,6,2004,2002,5,4,3,2,5,20,16,2,10,1,0,9,3,2002,3,2,33] ?_; have hf : fldE e = .mk e.kind 0 0 [] [] 0 e.s 0 noTy noTy [] [] := by rw [fldE, if_neg h12, if_neg h17, if_neg h18, if_pos h23]
    have hq : fldK e = 0 := by rw [fldK, if_neg h12, if_neg h17, if_neg h18, if_pos h23]
    rw [hf, hq]; exact ⟨.inl rfl, _, rfl, .refl _, trivial⟩
  intro h23; refine gg [1,0,9,10,2004,2002,2001,22,10,5,4,3,2,1,8,31,5] ?_; refine bE ?_ ?_
  · intro h28; refine gg [1,0,9,10,2004,2002,2001,27,10,5,4,3,2,1,32,34,32,34,5,20,16,2,10,1,0,9,3,2002,3,2,33] ?_; have hf : fldE e = .mk e.kind 0 0 [] [] 0 [] 0 noTy noTy [] [] := by rw [fldE, if_neg h12, if_neg h17, if_neg h18, if_neg h23, if_pos h28]
    have hq : fldK e = 0 := by rw [fldK, if_neg h12, if_neg h17, if_neg h18, if_neg h23, if_pos h28]
    rw [hf, hq]; exact ⟨.inl rfl, _, rfl, .refl _, trivial⟩
  intro h28; refine gg [1,0,9,10,2004,2002,2001,27,10,5,4,3,2,1,8,37] ?_; refine bE ?_ ?_
  · intro h29; refine gg [1,0,9,10,2004,2002,2001,27,10,5,4,3,2,1,32,34,5,20,16,2,10,1,0,9,3,2002,3,2,33] ?_; have hf : fldE e = .mk e.kind 0 0 [] [] 0 [] 0 noTy noTy [] [] := by rw [fldE, if_neg h12, if_neg h17, if_neg h18, if_neg h23, if_neg h28, if_pos h29]
    have hq : fldK e = 0 := by rw [fldK, if_neg h12, if_neg h17, if_neg h18, if_neg h23, if_neg h28, if_pos h29]
    rw [hf, hq]; exact ⟨.inl rfl, _, rfl, .refl _, trivial⟩
  intro h29; refine gg [1,0,9,10,2004,2002,2001,27,10,5,4,3,2,1,8,31,5] ?_; refine bE ?_ ?_
  · intro h31; refine gg [1,0,9,10,2004,2002,2001,30,10,5,4,3,2,1,32,34,32,37,1,0,9,6,2004,2002,5,4,3,2,5,20,16,2,10,1,0,9,3,2002,3,2,33] ?_; have hf : fldE e = .mk e.kind 0 0 [] [] 0 [] 0 noTy noTy [] [] := by rw [fldE, if_neg h12, if_neg h17, if_neg h18, if_neg h23, if_neg h28, if_neg h29, if_pos h31]
    have hq : fldK e = 2 := by rw [fldK, if_neg h12, if_neg h17, if_neg h18, if_neg h23, if_neg h28, if_neg h29, if_pos h31]
    rw [hf, hq]; exact ⟨.inl rfl, _, rfl, .refl _, trivial⟩
  intro h31; refine gg [1,0,9,10,2004,2002,2001,30,10,5,4,3,2,1,8,5] ?_; refine bE ?_ ?_
  · intro h32; refine gg [1,0,9,10,2004,2002,2001,30,10,5,4,3,2,1,32,34,32,37,1,0,9,6,2004,2002,5,4,3,2,5,20,16,2,10,1,0,9,3,2002,3,2,33] ?_; have hf : fldE e = .mk e.kind 0 0 [] [] 0 [] 0 noTy noTy [] [] := by rw [fldE, if_neg h12, if_neg h17, if_neg h18, if_neg h23, if_neg h28, if_neg h29, if_neg h31, if_pos h32]
    have hq : fldK e = 2 := by rw [fldK, if_neg h12, if_neg h17, if_neg h18, if_neg h23, if_neg h28, if_neg h29, if_neg h31, if_pos h32]
    rw [hf, hq]; exact ⟨.inl rfl, _, rfl, .refl _, trivial⟩
  intro h32; refine gg [1,0,9,10,2004,2002,2001,30,10,5,4,3,2,1,8,37] ?_; refine bE ?_ ?_
  · intro h33; refine gg [1,0,9,10,2004,2002,2001,30,10,5,4,3,2,1,32,37,1,0,9,6,2004,2002,5,4,3,2,5,20,16,2,10,1,0,9,3,2002,3,2,33] ?_; have hf : fldE e = .mk e.kind 0 0 [] [] 0 [] 0 noTy noTy [] [] := by rw [fldE, if_neg h12, if_neg h17, if_neg h18, if_neg h23, if_neg h28, if_neg h29, if_neg h31, if_neg h32, if_pos h33]
    have hq : fldK e = 2 := by rw [fldK, if_neg h12, if_neg h17, if_neg h18, if_neg h23, if_neg h28, if_neg h29, if_neg h31, if_neg h32, if_pos h33]
    rw [hf, hq]; exact ⟨.inl rfl, _, rfl, .refl _, trivial⟩
  intro h33; refine gg [1,0,9,10,2004,2002,2001,30,10,5,4,3,2,1,8,31,5] ?_; refine bE ?_ ?_
  · intro h35; obtain ⟨jq, hQ, hj⟩ : ∃ j : Int, IntKind.i64.wrap ((e.kind - 9).tdiv 2) = j ∧ j = 0 := ⟨_, rfl, by rw [h35]; rfl⟩; refine gg [1,0,9,10,2004,2002,2001,34,10,5,4,3,2,1,32,34,32,5,6,3,1,7,6,8,3,20,3,6,3,1,11,6,8,3,10,4,9,8,2004,2002,2001,5,4,3,2,1,37,6,0,1,7] ?_; refine u rfl rfl (r_subI rfl rfl rfl rfl (by omega)) ?_; refine u rfl rfl ((r_quoI rfl rfl rfl rfl (by decide)).cast (cast_i hQ)) ?_; refine u rfl rfl (r_addI rfl rfl rfl rfl (by first | decide | omega)) ?_; refine gg [1,0,9,6,2004,2002,5,4,3,2,5,20,16,2,10,1,0,9,3,2002,3,2,33] ?_; have hf : fldE e = .mk e.kind 0 0 e.nm [] 0 [] 0 e.A noTy [] [] := by rw [fldE, if_neg h12, if_neg h17, if_neg h18, if_neg h23, if_neg h28, if_neg h29, if_neg h31, if_neg h32, if_neg h33, if_pos h35]
    have hq : fldK e = 1 := by rw [fldK, if_neg h12, if_neg h17, if_neg h18, if_neg h23, if_neg h28, if_neg h29, if_neg h31, if_neg h32, if_neg h33, if_pos h35]
    rw [hf, hq]; subst hj; exact ⟨.inl rfl, _, rfl, .refl _, trivial⟩
  intro h35; refine gg [1,0,9,10,2004,2002,2001,34,10,5,4,3,2,1,8,37] ?_; refine bE ?_ ?_
  · intro h36; obtain ⟨jq, hQ, hj⟩ : ∃ j : Int, IntKind.i64.wrap ((e.kind - 9).tdiv 2) = j ∧ j = 1 := ⟨_, rfl, by rw [h36]; rfl⟩; refine gg [1,0,9,10,2004,2002,2001,34,10,5,4,3,2,1,32,5,6,3,1,7,6,8,3,20,3,6,3,1,11,6,8,3,10,4,9,8,2004,2002,2001,5,4,3,2,1,37,6,0,1,7] ?_; refine u rfl rfl (r_subI rfl rfl rfl rfl (by omega)) ?_; refine u rfl rfl ((r_quoI rfl rfl rfl rfl (by decide)).cast (cast_i hQ)) ?_; refine u rfl rfl (r_addI rfl rfl rfl rfl (by first | decide | omega)) ?_; refine gg [1,0,9,6,2004,2002,5,4,3,2,5,20,16,2,10,1,0,9,3,2002,3,2,33] ?_; have hf : fldE e = .mk e.kind 0 0 e.nm [] 0 [] 0 e.A noTy [] [] := by rw [fldE, if_neg h12, if_neg h17, if_neg h18, if_neg h23, if_neg h28, if_neg h29, if_neg h31, if_neg h32, if_neg h33, if_neg h35, if_pos h36]
    have hq : fldK e = 2 := by rw [fldK, if_neg h12, if_neg h17, if_neg h18, if_neg h23, if_neg h28, if_neg h29, if_neg h31, if_neg h32, if_neg h33, if_neg h35, if_pos h36]
    rw [hf, hq]; subst hj; exact ⟨.inl rfl, _, rfl, .refl _, trivial⟩
  intro h36; refine gg [1,0,9,10,2004,2002,2001,34,10,5,4,3,2,1,8,5] ?_; refine bE ?_ ?_
  · intro h49; refine gg [1,0,9,10,2004,2002,2001,48,10,5,4,3,2,1,32,5,6,3,1,7,6,4,1,7,6,8,3,20,3,6,11,3,20,3,6,3,1,11,6,4,1,11,6,8,3,10,6,11,3,10,4,9,6,2004,2002,5,4,3,2,37,1,0,9,6,2004,2002,5,4,3,2,5,20,16,2,10,1,0,9,3,2002,3,2,33] ?_; have hf : fldE e = .mk e.kind 0 0 e.nm e.arg 0 [] 0 e.A e.B [] [] := by rw [fldE, if_neg h12, if_neg h17, if_neg h18, if_neg h23, if_neg h28, if_neg h29, if_neg h31, if_neg h32, if_neg h33, if_neg h35, if_neg h36, if_pos h49]
    have hq : fldK e = 2 := by rw [fldK, if_neg h12, if_neg h17, if_neg h18, if_neg h23, if_neg h28, if_neg h29, if_neg h31, if_neg h32, if_neg h33, if_neg h35, if_neg h36, if_pos h49]
    rw [hf, hq]; exact ⟨.inl rfl, _, rfl, .refl _, trivial⟩
  intro h49; refine gg [1,0,9,10,2004,2002,2001,48,10,5,4,3,2,1,8,5] ?_; refine bE ?_ ?_
  · intro h63; refine gg [1,0,9,10,2004,2002,2001,62,10,5,4,3,2,1,32,37,1,0,9,6,2004,2002,5,4,3,2,5,20,16,2,10,1,0,9,3,2002,3,2,33] ?_; have hf : fldE e = .mk e.kind 0 0 [] [] 0 [] 0 noTy noTy [] [] := by rw [fldE, if_neg h12, if_neg h17, if_neg h18, if_neg h23, if_neg h28, if_neg h29, if_neg h31, if_neg h32, if_neg h33, if_neg h35, if_neg h36, if_neg h49, if_pos h63]
    have hq : fldK e = 3 := by rw [fldK, if_neg h12, if_neg h17, if_neg h18, if_neg h23, if_neg h28, if_neg h29, if_neg h31, if_neg h32, if_neg h33, if_neg h35, if_neg h36, if_neg h49, if_pos h63]
    rw [hf, hq]; exact ⟨.inl rfl, _, rfl, .refl _, trivial⟩
  intro h63; refine gg [1,0,9,10,2004,2002,2001,62,10,5,4,3,2,1,8,5] ?_; refine bE ?_ ?_
  · intro h65; refine gg [1,0,9,10,2004,2002,2001,64,10,5,4,3,2,1,32,5,6,14,1,7,18] ?_; refine u rfl rfl (r_addW rfl rfl rfl rfl) ?_; refine gg [1,0,9,8,2004,2002,2001,5,4,3,2,1,37,6,14,1,7,6,14,1,11,0,9,6,2004,2002,5,4,3,2,5,20,16,2,10,1,0,9,3,2002,3,2,33] ?_; have hf : fldE e = .mk e.kind 0 0 [] [] 0 [] 0 noTy noTy e.pats [] := by rw [fldE, if_neg h12, if_neg h17, if_neg h18, if_neg h23, if_neg h28, if_neg h29, if_neg h31, if_neg h32, if_neg h33, if_neg h35, if_neg h36, if_neg h49, if_neg h63, if_pos h65]
    have hq : fldK e = IntKind.i64.wrap (1 + (e.pats.length : Int)) := by rw [fldK, if_neg h12, if_neg h17, if_neg h18, if_neg h23, if_neg h28, if_neg h29, if_neg h31, if_neg h32, if_neg h33, if_neg h35, if_neg h36, if_neg h49, if_neg h63, if_pos h65]
    rw [hf, hq, ← hl]; exact ⟨.inl rfl, _, rfl, .refl _, trivial⟩
  intro h65; refine gg [1,0,9,10,2004,2002,2001,64,10,5,4,3,2,1,8,5] ?_; refine bE ?_ ?_
  · intro h74; refine gg [1,0,9,10,2004,2002,2001,73,10,5,4,3,2,1,32,5,6,8,3,20,3,6,8,3,10,0,9,6,2004,2002,5,4,3,2,37,1,0,9,6,2004,2002,5,4,3,2,5,20,16,2,10,1,0,9,3,2002,3,2,33] ?_; have hf : fldE e = .mk e.kind 0 0 [] [] 0 [] 0 e.A noTy [] [] := by rw [fldE, if_neg h12, if_neg h17, if_neg h18, if_neg h23, if_neg h28, if_neg h29, if_neg h31, if_neg h32, if_neg h33, if_neg h35, if_neg h36, if_neg h49, if_neg h63, if_neg h65, if_pos h74]
    have hq : fldK e = 1 := by rw [fldK, if_neg h12, if_neg h17, if_neg h18, if_neg h23, if_neg h28, if_neg h29, if_neg h31, if_neg h32, if_neg h33, if_neg h35, if_neg h36, if_neg h49, if_neg h63, if_neg h65, if_pos h74]
    rw [hf, hq]; exact ⟨.inl rfl, _, rfl, .refl _, trivial⟩
  intro h74; refine gg [1,0,9,10,2004,2002,2001,73,10,5,4,3,2,1,8,5] ?_; refine bE ?_ ?_
  · intro h79; refine gg [1,0,9,9,2004,2002,2001,78,5,4,3,2,1,32,5,6,7,1,7,6,7,1,11,0,9,6,2004,2002,5,4,3,2,37,1,0,9,6,2004,2002,5,4,3,2,5,20,16,2,10,1,0,9,3,2002,3,2,33] ?_; have hf : fldE e = .mk e.kind 0 0 [] [] 0 [] e.op noTy noTy [] [] := by rw [fldE, if_neg h12, if_neg h17, if_neg h18, if_neg h23, if_neg h28, if_neg h29, if_neg h31, if_neg h32, if_neg h33, if_neg h35, if_neg h36, if_neg h49, if_neg h63, if_neg h65, if_neg h74, if_pos h79]
    have hq : fldK e = 2 := by rw [fldK, if_neg h12, if_neg h17, if_neg h18, if_neg h23, if_neg h28, if_neg h29, if_neg h31, if_neg h32, if_neg h33, if_neg h35, if_neg h36, if_neg h49, if_neg h63, if_neg h65, if_neg h74, if_pos h79]
    rw [hf, hq]; exact ⟨.inl rfl, _, rfl, .refl _, trivial⟩
  intro h79; refine gg [1,0,9,9,2004,2002,2001,78,5,4,3,2,1,8,37,1,0,9,6,2004,2002,5,4,3,2,5,20,16,2,10,1,0,9,3,2002,3,2,33] ?_; have hf : fldE e = .mk e.kind 0 0 [] [] 0 [] 0 noTy noTy [] [] := by rw [fldE, if_neg h12, if_neg h17, if_neg h18, if_neg h23, if_neg h28, if_neg h29, if_neg h31, if_neg h32, if_neg h33, if_neg h35, if_neg h36, if_neg h49, if_neg h63, if_neg h65, if_neg h74, if_neg h79]
  have hq : fldK e = -1 := by rw [fldK, if_neg h12, if_neg h17, if_neg h18, if_neg h23, if_neg h28, if_neg h29, if_neg h31, if_neg h32, if_neg h33, if_neg h35, if_neg h36, if_neg h49, if_neg h63, if_neg h65, if_neg h74, if_neg h79]
  rw [hf, hq]; exact ⟨.inl rfl, _, rfl, .refl _, trivial⟩

def o2 (e : Ex) : Bool := decide (fldK e ≠ (e.kids.length : Int)) || decide (e.nm ≠ (fldE e).nm) || decide (e.arg ≠ (fldE e).arg) || decide (e.n ≠ (fldE e).n) || decide (e.s ≠ (fldE e).s) || decide (e.op ≠ (fldE e).op) || decide ((e.pats.length : Int) ≠ ((fldE e).pats.length : Int))
def o4 (e : Ex) : Bool := !mSame e.A (fldE e).A || !mSame e.B (fldE e).B
def o6 (e : Ex) : Bool := !mNote e.A (decide (e.kind ≠ 15)) || !mNote e.B true
def o8 (e : Ex) : Bool := if e.kind = 1 ∨ e.kind = 9 ∨ e.kind = 11 then mName e.nm else if e.kind = 12 then mName e.nm && mName e.arg else if e.kind = 3 then decide (e.n = 0) || decide (e.n = 1) else if e.kind = 4 then decide ((e.s.length : Int) ≤ 200)
  else if e.kind = 14 then decide (0 < (e.pats.length : Int)) else if e.kind = 16 then decide (1 ≤ e.op) && decide (e.op ≤ 7) else true
def ownE (e : Ex) : Bool := !o2 e && !o4 e && !o6 e && o8 e
theorem rOwn (e : Ex) (hA : e.A.size ≤ 100000) (hB : e.B.size ≤ 100000) (hn : e.nm.length ≤ 1000000000) (ha : e.arg.length ≤ 1000000000) : Con Tryz.prog 25 [.agg (exX e)] [] (.c (.lit (.bool (ownE e)))) [] := by
  have hl := pasD_len3 e.pats; have hlk := exsD_len e.kids; have hlf := pasD_len3 (fldE e).pats; have hF := rFields e; unfold ownE; refine gg [38,5,22,2001,1,0,9,3,2001,2,1,5,20,16] ?_; refine gc (hF) [2,14,14,23,2003,10,1,0,9,6,2003,2001,4,3,2,1,31] ?_; refine J_cutF (α := { b : Bool // o2 e = b }) (fun p => [(58, .c (.lit (.bool p.1)))]) [(1, _), (2, _), (3, _), (2001, _), (2003, _)] ⟨rfl, rfl, rfl, rfl, rfl, trivial⟩ ?_ ?_
  · skip
    refine gg [37,2,6,15,1,7,18] ?_; refine bN ?_ ?_
    · intro h14; refine gg [2,39,5,16,2,39,5,16,2,39,5,16,2,39,5,16,2,39,5,16,2,39,7,16,0] ?_; exact cut_in ⟨true, by first | (simp [o2, *]; done) | (simp_all [o2]; done) | (simp_all [o2]; omega)⟩ ⟨rfl, rfl, rfl, rfl, rfl, rfl, trivial⟩
    intro h14; refine gg [2,6,3,1,7,6,3,1,7] ?_; refine bT ?_ ?_
    · intro h20; refine gg [17,2,39,5,16,2,39,5,16,2,39,5,16,2,39,5,16,2,39,7,16,0] ?_; exact cut_in ⟨true, by first | (simp [o2, *]; done) | (simp_all [o2]; done) | (simp_all [o2]; omega)⟩ ⟨rfl, rfl, rfl, rfl, rfl, rfl, trivial⟩
    intro h20; refine gg [17,2,6,4,1,7,6,4,1,7] ?_; refine bT ?_ ?_
    · intro h27; refine gg [17,2,39,5,16,2,39,5,16,2,39,5,16,2,39,7,16,0] ?_; exact cut_in ⟨true, by first | (simp [o2, *]; done) | (simp_all [o2]; done) | (simp_all [o2]; omega)⟩ ⟨rfl, rfl, rfl, rfl, rfl, rfl, trivial⟩
    intro h27; refine gg [17,2,6,5,1,7,6,5,1,7] ?_; refine bN ?_ ?_
    · intro h34; refine gg [17,2,39,5,16,2,39,5,16,2,39,7,16,0] ?_; exact cut_in ⟨true, by first | (simp [o2, *]; done) | (simp_all [o2]; done) | (simp_all [o2]; omega)⟩ ⟨rfl, rfl, rfl, rfl, rfl, rfl, trivial⟩
    intro h34; refine gg [17,2,6,6,1,7,6,6,1,7] ?_; refine bT ?_ ?_
    · intro h41; refine gg [17,2,39,5,16,2,39,7,16,0] ?_; exact cut_in ⟨true, by first | (simp [o2, *]; done) | (simp_all [o2]; done) | (simp_all [o2]; omega)⟩ ⟨rfl, rfl, rfl, rfl, rfl, rfl, trivial⟩
    intro h41; refine gg [17,2,6,7,1,7,6,7,1,7] ?_; refine bN ?_ ?_
    · intro h48; refine gg [17,2,39,7,16,0] ?_; exact cut_in ⟨true, by first | (simp [o2, *]; done) | (simp_all [o2]; done) | (simp_all [o2]; omega)⟩ ⟨rfl, rfl, rfl, rfl, rfl, rfl, trivial⟩
    intro h48; refine gg [17,2,6,14,1,7,18,6,14,1,7,18] ?_; refine bN ?_ ?_
    · intro h57; refine gg [17,0] ?_; exact cut_in ⟨true, by first | (simp [o2, *]; done) | (simp_all [o2]; done) | (simp_all [o2]; omega)⟩ ⟨rfl, rfl, rfl, rfl, rfl, rfl, trivial⟩
    intro h57; refine gg [17,0] ?_; exact cut_in ⟨false, by first | (simp [o2, *]; done) | (simp_all [o2]; done) | (simp_all [o2]; omega)⟩ ⟨rfl, rfl, rfl, rfl, rfl, rfl, trivial⟩
  rintro ⟨b58, hb58⟩; dsimp only
  cases b58
  · skip
    refine gg [8,34,31] ?_; refine J_cutF (α := { b : Bool // o4 e = b }) (fun p => [(72, .c (.lit (.bool p.1)))]) [(1, _), (2, _), (2001, _), (2003, _)] ⟨rfl, rfl, rfl, rfl, trivial⟩ ?_ ?_
    · skip
      refine gg [37,6,8,3,20,3,6,8,3,20,3] ?_; refine JR.runC rfl rfl (cl (kRSame e.A.size e.A (fldE e).A (by omega) (Nat.le_refl _))) rfl ?_ ?_
      · intro h63; refine gg [15,2,6,11,3,20,3,6,11,3,20,3] ?_; refine JR.runC rfl rfl (cl (kRSame e.B.size e.B (fldE e).B (by omega) (Nat.le_refl _))) rfl ?_ ?_
        · intro h70; refine gg [15,17,0] ?_; exact cut_in ⟨false, by first | (simp [o4, *]; done) | (simp_all [o4]; done) | (simp_all [o4]; omega)⟩ ⟨rfl, rfl, rfl, rfl, rfl, trivial⟩
        intro h70; refine gg [15,17,0] ?_; exact cut_in ⟨true, by first | (simp [o4, *]; done) | (simp_all [o4]; done) | (simp_all [o4]; omega)⟩ ⟨rfl, rfl, rfl, rfl, rfl, trivial⟩
      intro h63; refine gg [15,2,39,6,16,0] ?_; exact cut_in ⟨true, by first | (simp [o4, *]; done) | (simp_all [o4]; done) | (simp_all [o4]; omega)⟩ ⟨rfl, rfl, rfl, rfl, rfl, trivial⟩
    rintro ⟨b72, hb72⟩; dsimp only
    cases b72
    · skip
      refine gg [8,34,31] ?_; refine J_cutF (α := { b : Bool // o6 e = b }) (fun p => [(85, .c (.lit (.bool p.1)))]) [(1, _), (2, _), (2001, _), (2003, _)] ⟨rfl, rfl, rfl, rfl, trivial⟩ ?_ ?_
      · skip
        refine gg [37,6,8,3,20,3,6,0,1,7] ?_; refine bN ?_ ?_
        · intro h77; refine JR.runC rfl rfl (cl (rNote e.A _ hA)) rfl ?_ ?_
          · intro h78; refine gg [15,2,6,11,3,20,3] ?_; refine JR.runC rfl rfl (cl (rNote e.B true hB)) rfl ?_ ?_
            · intro h83; refine gg [15,17,0] ?_; exact cut_in ⟨false, by first | (simp [o6, *]; done) | (simp_all [o6]; done) | (simp_all [o6]; omega)⟩ ⟨rfl, rfl, rfl, rfl, rfl, trivial⟩
            intro h83; refine gg [15,17,0] ?_; exact cut_in ⟨true, by first | (simp [o6, *]; done) | (simp_all [o6]; done) | (simp_all [o6]; omega)⟩ ⟨rfl, rfl, rfl, rfl, rfl, trivial⟩
          intro h78; refine gg [15,2,39,4,16,0] ?_; exact cut_in ⟨true, by first | (simp [o6, *]; done) | (simp_all [o6]; done) | (simp_all [o6]; omega)⟩ ⟨rfl, rfl, rfl, rfl, rfl, trivial⟩
        intro h77; refine JR.runC rfl rfl (cl (rNote e.A _ hA)) rfl ?_ ?_
        · intro h78; refine gg [15,2,6,11,3,20,3] ?_; refine JR.runC rfl rfl (cl (rNote e.B true hB)) rfl ?_ ?_
          · intro h83; refine gg [15,17,0] ?_; exact cut_in ⟨false, by first | (simp [o6, *]; done) | (simp_all [o6]; done) | (simp_all [o6]; omega)⟩ ⟨rfl, rfl, rfl, rfl, rfl, trivial⟩
          intro h83; refine gg [15,17,0] ?_; exact cut_in ⟨true, by first | (simp [o6, *]; done) | (simp_all [o6]; done) | (simp_all [o6]; omega)⟩ ⟨rfl, rfl, rfl, rfl, rfl, trivial⟩
        intro h78; refine gg [15,2,39,4,16,0] ?_; exact cut_in ⟨true, by first | (simp [o6, *]; done) | (simp_all [o6]; done) | (simp_all [o6]; omega)⟩ ⟨rfl, rfl, rfl, rfl, rfl, trivial⟩
      rintro ⟨b85, hb85⟩; dsimp only
      cases b85
      · skip
        refine gg [8,34,31,5,6,0,1,7,0,9,4,2001,87,2,1,35,31,5] ?_; refine bE ?_ ?_
        · intro h89; refine gg [1,0,9,5,2001,88,87,2,1,32,34,32,5,6,3,1,7] ?_; refine JR.runC rfl rfl (cl (rName e.nm (by omega))) rfl ?_ ?_
          · intro h94; refine gg [1,0,9,1,2,33] ?_; refine ⟨.inl rfl, _, rfl, .ofB ?_, trivial⟩; simp only [hb58, hb72, hb85, Bool.not_true, Bool.not_false, Bool.false_and, Bool.and_false, Bool.true_and]; first | (simp [o8, *]; done) | (simp_all [o8]; done) | (simp_all [o8]; omega)
          intro h94; refine gg [1,0,9,1,2,33] ?_; refine ⟨.inl rfl, _, rfl, .ofB ?_, trivial⟩; simp only [hb58, hb72, hb85, Bool.not_true, Bool.not_false, Bool.false_and, Bool.and_false, Bool.true_and]; first | (simp [o8, *]; done) | (simp_all [o8]; done) | (simp_all [o8]; omega)
        intro h89; refine gg [1,0,9,5,2001,88,87,2,1,8,5] ?_; refine bE ?_ ?_
        · intro h90; refine gg [1,0,9,5,2001,88,87,2,1,32,34,32,5,6,3,1,7] ?_; refine JR.runC rfl rfl (cl (rName e.nm (by omega))) rfl ?_ ?_
          · intro h94; refine gg [1,0,9,1,2,33] ?_; refine ⟨.inl rfl, _, rfl, .ofB ?_, trivial⟩; simp only [hb58, hb72, hb85, Bool.not_true, Bool.not_false, Bool.false_and, Bool.and_false, Bool.true_and]; first | (simp [o8, *]; done) | (simp_all [o8]; done) | (simp_all [o8]; omega)
          intro h94; refine gg [1,0,9,1,2,33] ?_; refine ⟨.inl rfl, _, rfl, .ofB ?_, trivial⟩; simp only [hb58, hb72, hb85, Bool.not_true, Bool.not_false, Bool.false_and, Bool.and_false, Bool.true_and]; first | (simp [o8, *]; done) | (simp_all [o8]; done) | (simp_all [o8]; omega)
        intro h90; refine gg [1,0,9,5,2001,88,87,2,1,8,37] ?_; refine bE ?_ ?_
        · intro h91; refine gg [1,0,9,5,2001,88,87,2,1,32,5,6,3,1,7] ?_; refine JR.runC rfl rfl (cl (rName e.nm (by omega))) rfl ?_ ?_
          · intro h94; refine gg [1,0,9,1,2,33] ?_; refine ⟨.inl rfl, _, rfl, .ofB ?_, trivial⟩; simp only [hb58, hb72, hb85, Bool.not_true, Bool.not_false, Bool.false_and, Bool.and_false, Bool.true_and]; first | (simp [o8, *]; done) | (simp_all [o8]; done) | (simp_all [o8]; omega)
          intro h94; refine gg [1,0,9,1,2,33] ?_; refine ⟨.inl rfl, _, rfl, .ofB ?_, trivial⟩; simp only [hb58, hb72, hb85, Bool.not_true, Bool.not_false, Bool.false_and, Bool.and_false, Bool.true_and]; first | (simp [o8, *]; done) | (simp_all [o8]; done) | (simp_all [o8]; omega)
        intro h91; refine gg [1,0,9,5,2001,88,87,2,1,8,5] ?_; refine bE ?_ ?_
        · intro h96; refine gg [1,0,9,5,2001,95,87,2,1,32,5,6,3,1,7] ?_; refine JR.runC rfl rfl (cl (rName e.nm (by omega))) rfl ?_ ?_
          · intro h99; refine gg [2,6,4,1,7] ?_; refine JR.runC rfl rfl (cl (rName e.arg (by omega))) rfl ?_ ?_
            · intro h103; refine gg [16,1,0,9,1,2,33] ?_; refine ⟨.inl rfl, _, rfl, .ofB ?_, trivial⟩; simp only [hb58, hb72, hb85, Bool.not_true, Bool.not_false, Bool.false_and, Bool.and_false, Bool.true_and]; first | (simp [o8, *]; done) | (simp_all [o8]; done) | (simp_all [o8]; omega)
            intro h103; refine gg [16,1,0,9,1,2,33] ?_; refine ⟨.inl rfl, _, rfl, .ofB ?_, trivial⟩; simp only [hb58, hb72, hb85, Bool.not_true, Bool.not_false, Bool.false_and, Bool.and_false, Bool.true_and]; first | (simp [o8, *]; done) | (simp_all [o8]; done) | (simp_all [o8]; omega)
          intro h99; refine gg [2,39,3,17,1,0,9,1,2,33] ?_; refine ⟨.inl rfl, _, rfl, .ofB ?_, trivial⟩; simp only [hb58, hb72, hb85, Bool.not_true, Bool.not_false, Bool.false_and, Bool.and_false, Bool.true_and]; first | (simp [o8, *]; done) | (simp_all [o8]; done) | (simp_all [o8]; omega)
        intro h96; refine gg [1,0,9,5,2001,95,87,2,1,8,5] ?_; refine bE ?_ ?_
        · intro h106; refine gg [1,0,9,5,2001,105,87,2,1,32,5,6,5,1,7] ?_; refine bE ?_ ?_
          · intro h109; refine gg [2,39,3,16,1,0,9,1,2,33] ?_; refine ⟨.inl rfl, _, rfl, .ofB ?_, trivial⟩; simp only [hb58, hb72, hb85, Bool.not_true, Bool.not_false, Bool.false_and, Bool.and_false, Bool.true_and]; first | (simp [o8, *]; done) | (simp_all [o8]; done) | (simp_all [o8]; omega)
          intro h109; refine gg [2,6,5,1,7] ?_; refine bE ?_ ?_
          · intro h113; refine gg [17,1,0,9,1,2,33] ?_; refine ⟨.inl rfl, _, rfl, .ofB ?_, trivial⟩; simp only [hb58, hb72, hb85, Bool.not_true, Bool.not_false, Bool.false_and, Bool.and_false, Bool.true_and]; first | (simp [o8, *]; done) | (simp_all [o8]; done) | (simp_all [o8]; omega)
          intro h113; refine gg [17,1,0,9,1,2,33] ?_; refine ⟨.inl rfl, _, rfl, .ofB ?_, trivial⟩; simp only [hb58, hb72, hb85, Bool.not_true, Bool.not_false, Bool.false_and, Bool.and_false, Bool.true_and]; first | (simp [o8, *]; done) | (simp_all [o8]; done) | (simp_all [o8]; omega)
        intro h106; refine gg [1,0,9,5,2001,105,87,2,1,8,5] ?_; refine bE ?_ ?_
        · intro h116; refine gg [1,0,9,5,2001,115,87,2,1,32,5,6,6,1,7,30] ?_; refine bM ?_ ?_
          · intro h120; refine gg [1,0,9,1,2,33] ?_; refine ⟨.inl rfl, _, rfl, .ofB ?_, trivial⟩; simp only [hb58, hb72, hb85, Bool.not_true, Bool.not_false, Bool.false_and, Bool.and_false, Bool.true_and]; first | (simp [o8, *]; done) | (simp_all [o8]; done) | (simp_all [o8]; omega)
          intro h120; refine gg [1,0,9,1,2,33] ?_; refine ⟨.inl rfl, _, rfl, .ofB ?_, trivial⟩; simp only [hb58, hb72, hb85, Bool.not_true, Bool.not_false, Bool.false_and, Bool.and_false, Bool.true_and]; first | (simp [o8, *]; done) | (simp_all [o8]; done) | (simp_all [o8]; omega)
        intro h116; refine gg [1,0,9,5,2001,115,87,2,1,8,5] ?_; refine bE ?_ ?_
        · intro h122; refine gg [1,0,9,5,2001,121,87,2,1,32,5,6,14,1,7,18] ?_; refine bG ?_ ?_
          · intro h126; refine gg [1,0,9,1,2,33] ?_; refine ⟨.inl rfl, _, rfl, .ofB ?_, trivial⟩; simp only [hb58, hb72, hb85, Bool.not_true, Bool.not_false, Bool.false_and, Bool.and_false, Bool.true_and]; first | (simp [o8, *]; done) | (simp_all [o8]; done) | (simp_all [o8]; omega)
          intro h126; refine gg [1,0,9,1,2,33] ?_; refine ⟨.inl rfl, _, rfl, .ofB ?_, trivial⟩; simp only [hb58, hb72, hb85, Bool.not_true, Bool.not_false, Bool.false_and, Bool.and_false, Bool.true_and]; first | (simp [o8, *]; done) | (simp_all [o8]; done) | (simp_all [o8]; omega)
        intro h122; refine gg [1,0,9,5,2001,121,87,2,1,8,5] ?_; refine bE ?_ ?_
        · intro h128; refine gg [1,0,9,4,2001,127,2,1,32,5,6,7,1,7] ?_; refine bH ?_ ?_
          · intro h131; refine gg [2,6,7,1,7] ?_; refine bM ?_ ?_
            · intro h135; refine gg [16,1,0,9,1,2,33] ?_; refine ⟨.inl rfl, _, rfl, .ofB ?_, trivial⟩; simp only [hb58, hb72, hb85, Bool.not_true, Bool.not_false, Bool.false_and, Bool.and_false, Bool.true_and]; first | (simp [o8, *]; done) | (simp_all [o8]; done) | (simp_all [o8]; omega)
            intro h135; refine gg [16,1,0,9,1,2,33] ?_; refine ⟨.inl rfl, _, rfl, .ofB ?_, trivial⟩; simp only [hb58, hb72, hb85, Bool.not_true, Bool.not_false, Bool.false_and, Bool.and_false, Bool.true_and]; first | (simp [o8, *]; done) | (simp_all [o8]; done) | (simp_all [o8]; omega)
          intro h131; refine gg [2,39,3,17,1,0,9,1,2,33] ?_; refine ⟨.inl rfl, _, rfl, .ofB ?_, trivial⟩; simp only [hb58, hb72, hb85, Bool.not_true, Bool.not_false, Bool.false_and, Bool.and_false, Bool.true_and]; first | (simp [o8, *]; done) | (simp_all [o8]; done) | (simp_all [o8]; omega)
        intro h128; refine gg [1,0,9,4,2001,127,2,1,8,34,5,1,0,9,1,2,33] ?_; refine ⟨.inl rfl, _, rfl, .ofB ?_, trivial⟩; simp only [hb58, hb72, hb85, Bool.not_true, Bool.not_false, Bool.false_and, Bool.and_false, Bool.true_and]; first | (simp [o8, *]; done) | (simp_all [o8]; done) | (simp_all [o8]; omega)
      skip
      refine gg [32,5,1,0,9,3,2001,2,1,33] ?_; refine ⟨.inl rfl, _, rfl, .ofB ?_, trivial⟩; simp only [hb58, hb72, hb85, Bool.not_true, Bool.not_false, Bool.false_and, Bool.and_false, Bool.true_and]
    skip
    refine gg [32,5,1,0,9,3,2001,2,1,33] ?_; refine ⟨.inl rfl, _, rfl, .ofB ?_, trivial⟩; simp only [hb58, hb72, Bool.not_true, Bool.not_false, Bool.false_and, Bool.and_false, Bool.true_and]
  skip
  refine gg [32,5,1,0,9,5,2003,2001,3,2,1,33] ?_; refine ⟨.inl rfl, _, rfl, .ofB ?_, trivial⟩; simp only [hb58, Bool.not_true, Bool.not_false, Bool.false_and, Bool.and_false, Bool.true_and]


end Go.Proofs.YtlagglkpbnbmeaaGreatDoor

/- The page's own answers on right patterns. -/
namespace Go.Proofs.YtlagglkpbnbmeaaGreatDoor
open Go Go.RowKit
set_option maxRecDepth 100000
set_option maxHeartbeats 4000000
set_option linter.unusedVariables false
set_option linter.unusedSimpArgs false

def strs (l : List (List UInt8)) : List (List D) := l.map fun x => [.lit (str x)]
theorem strs_len (l : List (List UInt8)) : (strs l).length = l.length := by rw [strs, List.length_map]
theorem strs_at {l : List (List UInt8)} {i : Nat} {x : List UInt8} (h : l[i]? = some x) : (strs l)[((i : Nat) : Int).toNat]? = some [.lit (str x)] := by simp [strs, h]
theorem strs_app (a b : List (List UInt8)) : strs (a ++ b) = strs a ++ strs b := by simp [strs]
theorem drop_get5 {α : Type} {l : List α} {i : Nat} {x : α} (h : l[i]? = some x) : l.drop i = x :: l.drop (i + 1) := by
  obtain ⟨hl, rfl⟩ := List.getElem?_eq_some_iff.1 h; exact List.drop_eq_getElem_cons hl
theorem rHas (l : List (List UInt8)) (s : List UInt8) (hl : l.length ≤ 1000000000) : Con Tryz.prog 36 [.c (.sl 1 (strs l)), .c (.lit (str s))] [] (.c (.lit (.bool (l.contains s)))) [] := by
  have hn := strs_len l; refine gg [38,5,1,0,9,3,4,1,0,31,5,1,0,9,4,5,4,1,0,35] ?_; refine J_loopF (α := { i : Nat // i ≤ l.length ∧ l.contains s = (l.drop i).contains s }) (fun p => [(5, .c (.lit (.int .i64 (p.1 : Int))))]) [(0, _), (1, _), (4, _)] (fun p => l.length - p.1) ⟨0, Nat.zero_le _, rfl⟩ ⟨rfl, rfl, rfl, rfl, trivial⟩ ?_; rintro ⟨i, hi, hI⟩; dsimp only; refine gg [31,5,2,2,18] ?_; refine bL ?_ ?_
  · intro h9; obtain ⟨x, hx⟩ := get_some5 (l := l) (i := i) (by omega); refine gg [0,9,8,9,8,7,6,5,4,1,0,32,34,31,35,5,2,2] ?_; refine u rfl rfl (r_indexAddr (e := 9) (sz := 1) rfl rfl (by kernel_rfl) rfl rfl (by omega) (strs_at hx)) ?_; refine gg [12,2] ?_; refine bS ?_ ?_
    · intro h17; refine gg [0,9,14,17,16,15,14,13,12,9,8,7,6,5,4,1,0,32,5,1,0,9,14,17,16,15,14,13,12,9,8,7,6,5,4,1,0,33] ?_; refine ⟨.inl rfl, _, rfl, .ofB ?_, trivial⟩; rw [hI, drop_get5 hx, eq_of_beq h17]
      simp
    intro h17; refine gg [0,9,14,17,16,15,14,13,12,9,8,7,6,5,4,1,0,8,34,37,2,27,1,0] ?_; refine ⟨⟨i + 1, by omega, by rw [hI, drop_get5 hx, List.contains_cons, beq_eq_false_iff_ne.2 (fun e => by rw [e] at h17; simp at h17), Bool.false_or]⟩, by simp only; omega, rfl, rfl, rfl, rfl, trivial⟩
  intro h9; refine gg [0,9,8,9,8,7,6,5,4,1,0,8,36,5,1,0,9,1,4,33] ?_; refine ⟨.inl rfl, _, rfl, .ofB ?_, trivial⟩; rw [hI, List.drop_eq_nil_of_le (by omega)]
  rfl

def nms (p : Pa) : List (List UInt8) := (p.list.filter fun q => decide (q.kind = 2)).map Pa.nm
theorem nmsL (l : List Pa) : ((pasList l).filter fun q => decide (q.kind = 2)).map Pa.nm = l.flatMap nms := by
  induction l with
  | nil => rfl
  | cons p r ih => rw [pasList, List.filter_append, List.map_append, ih]; rfl
theorem nms_eq (p : Pa) : nms p = (if p.kind = 2 then [p.nm] else []) ++ p.kids.flatMap nms := by
  cases p with
  | mk k a b nm n s kids =>
    rw [nms, Pa.list, ← nmsL]
    by_cases h : k = 2
    · rw [List.filter_cons_of_pos (p := fun q : Pa => decide (q.kind = 2)) (a := .mk k a b nm n s kids) (decide_eq_true h), if_pos (show (Pa.mk k a b nm n s kids).kind = 2 from h)]; rfl
    rw [List.filter_cons_of_neg (p := fun q : Pa => decide (q.kind = 2)) (a := .mk k a b nm n s kids) (fun e => h (of_decide_eq_true e)), if_neg (show ¬ (Pa.mk k a b nm n s kids).kind = 2 from h)]; rfl
def rowN (b : List (List D)) (l : List Pa) : Nat → List (List D)
  | 0 => b
  | i + 1 => b ++ strs ((l.take (i + 1)).flatMap nms)
theorem rowN_eq (b : List (List D)) (l : List Pa) (i : Nat) : rowN b l i = b ++ strs ((l.take i).flatMap nms) := by
  cases i with
  | zero => simp [rowN, strs]
  | succ i => rfl
theorem rowN_step {b : List (List D)} {l : List Pa} {i : Nat} {x : Pa} (h : l[i]? = some x) : rowN b l i ++ strs (nms x) = rowN b l (i + 1) := by
  have ht : l.take (i + 1) = l.take i ++ [x] := by rw [List.take_add_one, h]; rfl
  rw [rowN_eq, rowN_eq, ht, List.flatMap_append, strs_app, List.append_assoc]
  simp
theorem rowN_len {b : List (List D)} {l : List Pa} {i : Nat} : (rowN b l i).length = b.length + ((l.take i).flatMap nms).length := by
  rw [rowN_eq, List.length_append, strs_len]
theorem flat_take : ∀ (l : List Pa) (i : Nat), ((l.take i).flatMap nms).length ≤ (l.flatMap nms).length
  | [], i => by simp
  | q :: r, 0 => by simp
  | q :: r, i + 1 => by
    have := flat_take r i; rw [List.take_succ_cons, List.flatMap_cons, List.flatMap_cons, List.length_append, List.length_append]
    omega
abbrev strK : TypeId := 9
theorem rNamesStep {t : Pa} (hk : t.kids.length ≤ 9223372036854775807) (ih : ∀ x, x ∈ t.kids → ∀ els : List (List D), els.length + (nms x).length ≤ 1000000000 → Con Tryz.prog 70 [.agg (paX x), .own strK 1 (els)] [] (.own strK 1 (els ++ strs (nms x))) []) (els : List (List D)) (hs : els.length + (nms t).length ≤ 1000000000) : Con Tryz.prog 70 [.agg (paX t), .own strK 1 (els)] [] (.own strK 1 (els ++ strs (nms t))) [] := by
  have hl := pasD_len3 t.kids; have hb := nms_eq t
  by_cases h2 : t.kind = 2
  · rw [if_pos h2] at hb; rw [hb] at hs ⊢; simp only [List.length_append, List.length_cons, List.length_nil] at hs; refine gg [38,5,22,2002,1,0,9,4,2002,4,2,1,31,5,6,0,1,7] ?_; refine u rfl rfl ((r_eqI rfl rfl rfl rfl).cast (by rw [decide_eq_true h2])) ?_; refine gg [0,9,5,2002,8,4,2,1,32,37,29,6,3,1,7] ?_; refine u rfl rfl (r_buildSlice (e := 9) (sz := 1) (zs := [str []]) ([[.lit (str t.nm)]]) rfl rfl (by kernel_rfl) (by kernel_rfl) rfl rfl rfl rfl) ?_; refine u rfl rfl (r_append (e := 9) (sz := 1) (b := 16) rfl rfl (by kernel_rfl) rfl rfl (by (try simp only [List.length_append, List.length_cons, List.length_nil]); omega) (by (try simp only [List.length_append, List.length_cons, List.length_nil]); omega)) ?_; refine gg [28,0,9,4,2002,4,2,1,31,5,1,0,9,5,2002,5,4,2,1,35] ?_; refine J_loopF (α := { i : Nat // i ≤ t.kids.length }) (fun p => [(1, .own strK 1 (rowN (els ++ [[.lit (str t.nm)]]) t.kids p.1)), (5, .c (.lit (.int .i64 (p.1 : Int))))]) [(2, _), (4, _), (2002, _)] (fun p => t.kids.length - p.1) ⟨0, Nat.zero_le _⟩ ⟨rfl, rfl, rfl, rfl, rfl, trivial⟩ ?_
    rintro ⟨i, hi⟩; dsimp only; have hrl := rowN_len (b := els ++ [[.lit (str t.nm)]]) (l := t.kids) (i := i); have hft := flat_take t.kids i; refine gg [31,5,2,6,6,1,7,18] ?_; refine bL ?_ ?_
    · intro h18; obtain ⟨x, hx⟩ := get_some5 (l := t.kids) (i := i) (by omega); have hf2 := flat_take t.kids (i + 1); have ht : t.kids.take (i + 1) = t.kids.take i ++ [x] := by rw [List.take_add_one, hx]; rfl
      rw [ht, List.flatMap_append, List.length_append, List.flatMap_cons, List.flatMap_nil, List.append_nil] at hf2; have hc := ih x (List.mem_of_getElem? hx) (rowN (els ++ [[.lit (str t.nm)]]) t.kids i) (by rw [hrl]; (try simp only [List.length_append, List.length_cons, List.length_nil]); omega); refine gg [0,9,10,2002,18,17,16,15,14,5,4,2,1,32,34,31,35,37,6,6,1,7,2] ?_; refine u rfl rfl (r_indexAddr (e := 40) (sz := 7) rfl rfl (by kernel_rfl) rfl rfl (by omega) (pas_at3 hx)) ?_; refine gg [21,7,29] ?_; refine gc (hc) [28,0,9,15,2002,25,24,23,22,21,18,17,16,15,14,5,4,2,1,37,2,27,1,0] ?_; rw [rowN_step hx]; exact ⟨⟨i + 1, by omega⟩, by simp only; omega, rfl, rfl, rfl, rfl, rfl, trivial⟩
    intro h18; refine gg [0,9,10,2002,18,17,16,15,14,5,4,2,1,8,36,5,29,28,0,9,1,4,33] ?_; refine ⟨.inl rfl, _, rfl, .of ?_, trivial⟩; obtain rfl : i = t.kids.length := by omega
    rw [rowN_eq, List.take_length] <;> simp [strs]
  rw [if_neg h2, List.nil_append] at hb; rw [hb] at hs ⊢; refine gg [38,5,22,2002,1,0,9,4,2002,4,2,1,31,5,6,0,1,7] ?_; refine u rfl rfl ((r_eqI rfl rfl rfl rfl).cast (by rw [decide_eq_false h2])) ?_; refine gg [0,9,5,2002,8,4,2,1,8,34,31,5,1,0,9,5,2002,5,4,2,1,35] ?_; refine J_loopF (α := { i : Nat // i ≤ t.kids.length }) (fun p => [(1, .own strK 1 (rowN (els) t.kids p.1)), (5, .c (.lit (.int .i64 (p.1 : Int))))]) [(2, _), (4, _), (2002, _)] (fun p => t.kids.length - p.1) ⟨0, Nat.zero_le _⟩ ⟨rfl, rfl, rfl, rfl, rfl, trivial⟩ ?_; rintro ⟨i, hi⟩; dsimp only; have hrl := rowN_len (b := els) (l := t.kids) (i := i); have hft := flat_take t.kids i; refine gg [31,5,2,6,6,1,7,18] ?_; refine bL ?_ ?_
  · intro h18; obtain ⟨x, hx⟩ := get_some5 (l := t.kids) (i := i) (by omega); have hf2 := flat_take t.kids (i + 1); have ht : t.kids.take (i + 1) = t.kids.take i ++ [x] := by rw [List.take_add_one, hx]; rfl
    rw [ht, List.flatMap_append, List.length_append, List.flatMap_cons, List.flatMap_nil, List.append_nil] at hf2; have hc := ih x (List.mem_of_getElem? hx) (rowN (els) t.kids i) (by rw [hrl]; (try simp only [List.length_append, List.length_cons, List.length_nil]); omega); refine gg [0,9,10,2002,18,17,16,15,14,5,4,2,1,32,34,31,35,37,6,6,1,7,2] ?_; refine u rfl rfl (r_indexAddr (e := 40) (sz := 7) rfl rfl (by kernel_rfl) rfl rfl (by omega) (pas_at3 hx)) ?_; refine gg [21,7,29] ?_; refine gc (hc) [28,0,9,15,2002,25,24,23,22,21,18,17,16,15,14,5,4,2,1,37,2,27,1,0] ?_; rw [rowN_step hx]; exact ⟨⟨i + 1, by omega⟩, by simp only; omega, rfl, rfl, rfl, rfl, rfl, trivial⟩
  intro h18; refine gg [0,9,10,2002,18,17,16,15,14,5,4,2,1,8,36,5,29,28,0,9,1,4,33] ?_; refine ⟨.inl rfl, _, rfl, .of ?_, trivial⟩; obtain rfl : i = t.kids.length := by omega
  rw [rowN_eq, List.take_length] <;> simp [strs]

theorem rNames {n : Nat} (hn : n ≤ 1000000000) {p : Pa} (h : PaK n p) : ∀ els : List (List D), els.length + (nms p).length ≤ 1000000000 → Con Tryz.prog 70 [.agg (paX p), .own strK 1 (els)] [] (.own strK 1 (els ++ strs (nms p))) [] := by
  induction h with
  | mk _ _ hk _ ih => exact rNamesStep (by simp only [Pa.kids]; omega) ih
theorem rNamesOf {n : Nat} (hn : n ≤ 1000000000) {p : Pa} (h : PaK n p) (hs : (nms p).length ≤ 1000000000) : Con Tryz.prog 35 [.agg (paX p)] [] (.own strK 1 (strs (nms p))) [] := by
  have hc := con_nil1 (rNames hn h [] (by rw [List.length_nil]; omega)); rw [List.nil_append] at hc; refine gg [38,5,22,2001,1,0,9,3,2001,2,1,5,20,7] ?_; refine gc (hc) [28,0,9,1,2,33] ?_; exact ⟨.inl rfl, _, rfl, .refl _, trivial⟩

theorem pat_all (p : Pa) : p.list.all okPa = (okPa p && p.kids.all fun x => x.list.all okPa) := by
  cases p with
  | mk k a b nm n s kids => rw [Pa.list, List.all_cons, pasAll]; rfl
theorem okPa_kids {p : Pa} (h : okPa p = false) : p.list.all okPa = false := by rw [pat_all, h, Bool.false_and]
theorem rPatStep {t : Pa} (hk : t.kids.length ≤ 9223372036854775807) (hnm : t.nm.length ≤ 1000000000) (ih : ∀ x, x ∈ t.kids → Con Tryz.prog 34 [.agg (paX x)] [] (.c (.lit (.bool (x.list.all okPa)))) []) : Con Tryz.prog 34 [.agg (paX t)] [] (.c (.lit (.bool (t.list.all okPa)))) [] := by
  have hl := pasD_len3 t.kids; refine gg [38,5,22,2001,1,0,9,3,2001,2,1,5,1,0,9,4,2001,3,2,1,5,6,0,1,7] ?_; refine u rfl rfl (r_build (zs := zp) (qs := [(0, 1), (1, 2), (3, 1), (4, 1), (5, 1), (6, 1)]) dp rfl rfl (by kernel_rfl) (by kernel_rfl) kp rfl rfl) ?_; refine gg [24,2004,10,0,9,6,2004,2001,4,3,2,1,31,5,6,0,1,7,0,9,7,2004,2001,10,4,3,2,1,35,31,5] ?_; refine bE ?_ ?_
  · intro h12; refine gg [1,0,9,8,2004,2001,11,10,4,3,2,1,32,34,32,34,31,5,6,6,1,7,18,2] ?_; refine bN ?_ ?_
    · intro h58; refine gg [2,39,5,16,2,39,5,16,2,39,5,16,0,9,5,2001,79,3,2,1,32,5,1,0,9,4,2001,3,2,1,33] ?_; refine ⟨.inl rfl, _, rfl, .ofB ?_, trivial⟩; refine okPa_kids ?_; first | (simp_all [okPa, paSh]; done) | (simp_all [okPa, paSh]; omega)
    intro h58; refine gg [2,6,3,1,7,6,3,1,7] ?_; refine bT ?_ ?_
    · intro h64; refine gg [17,2,39,5,16,2,39,5,16,0,9,5,2001,79,3,2,1,32,5,1,0,9,4,2001,3,2,1,33] ?_; refine ⟨.inl rfl, _, rfl, .ofB ?_, trivial⟩; refine okPa_kids ?_; first | (simp_all [okPa, paSh]; done) | (simp_all [okPa, paSh]; omega)
    intro h64; refine gg [17,2,6,4,1,7,6,4,1,7] ?_; refine bN ?_ ?_
    · intro h71; refine gg [17,2,39,5,16,0,9,5,2001,79,3,2,1,32,5,1,0,9,4,2001,3,2,1,33] ?_; refine ⟨.inl rfl, _, rfl, .ofB ?_, trivial⟩; refine okPa_kids ?_; first | (simp_all [okPa, paSh]; done) | (simp_all [okPa, paSh]; omega)
    intro h71; refine gg [17,2,6,5,1,7,6,5,1,7] ?_; refine bT ?_ ?_
    · intro h78; refine gg [17,0,9,5,2001,79,3,2,1,32,5,1,0,9,4,2001,3,2,1,33] ?_; refine ⟨.inl rfl, _, rfl, .ofB ?_, trivial⟩; refine okPa_kids ?_; first | (simp_all [okPa, paSh]; done) | (simp_all [okPa, paSh]; omega)
    intro h78; refine gg [17,0,9,5,2001,79,3,2,1,8,34,31,5,1,0,9,5,2001,5,3,2,1,35] ?_; refine J_loopF (α := { i : Nat // i ≤ t.kids.length ∧ (t.kids.all fun x => x.list.all okPa) = ((t.kids.drop i).all fun x => x.list.all okPa) }) (fun p => [(5, .c (.lit (.int .i64 (p.1 : Int))))]) [(1, _), (2, _), (3, _), (2001, _)] (fun p => t.kids.length - p.1) ⟨0, Nat.zero_le _, rfl⟩ ⟨rfl, rfl, rfl, rfl, rfl, trivial⟩ ?_; rintro ⟨i, hi, hI⟩; dsimp only; refine gg [31,5,2,2] ?_; refine bL ?_ ?_
    · intro h82; obtain ⟨x, hx⟩ := get_some5 (l := t.kids) (i := i) (by omega); have hc := ih x (List.mem_of_getElem? hx); refine gg [0,9,8,2001,82,81,80,5,3,2,1,32,34,31,35,5,6,6,1,7,2] ?_; refine u rfl rfl (r_indexAddr (e := 40) (sz := 7) rfl rfl (by kernel_rfl) rfl rfl (by omega) (pas_at3 hx)) ?_; refine gg [21,7] ?_; refine JR.runC rfl rfl (cl (hc)) rfl ?_ ?_
      · intro h90; refine gg [15,0,9,15,2001,91,90,89,88,87,86,85,82,81,80,5,3,2,1,8,34,37,2,27,1,0] ?_; refine ⟨⟨i + 1, by omega, by rw [hI, drop_get5 hx, List.all_cons, h90, Bool.true_and]⟩, by simp only; omega, rfl, rfl, rfl, rfl, rfl, trivial⟩
      intro h90; refine gg [15,0,9,15,2001,91,90,89,88,87,86,85,82,81,80,5,3,2,1,32,5,1,0,9,15,2001,91,90,89,88,87,86,85,82,81,80,5,3,2,1,33] ?_; refine ⟨.inl rfl, _, rfl, .ofB ?_, trivial⟩; rw [pat_all, hI, drop_get5 hx, List.all_cons, h90, Bool.false_and, Bool.and_false]
    intro h82; refine gg [0,9,8,2001,82,81,80,5,3,2,1,8,36,5,1,0,9,1,2,33] ?_; refine ⟨.inl rfl, _, rfl, .ofB ?_, trivial⟩; have hok : okPa t = true := by
      clear hI; first | (simp_all [okPa, paSh]; done) | (simp_all [okPa, paSh]; omega)
    rw [pat_all, hok, hI, List.drop_eq_nil_of_le (by omega)]
    rfl
  intro h12; refine gg [1,0,9,8,2004,2001,11,10,4,3,2,1,8,5] ?_; refine bE ?_ ?_
  · intro h13; refine gg [1,0,9,8,2004,2001,11,10,4,3,2,1,32,34,32,34,31,5,6,6,1,7,18,2] ?_; refine bN ?_ ?_
    · intro h58; refine gg [2,39,5,16,2,39,5,16,2,39,5,16,0,9,5,2001,79,3,2,1,32,5,1,0,9,4,2001,3,2,1,33] ?_; refine ⟨.inl rfl, _, rfl, .ofB ?_, trivial⟩; refine okPa_kids ?_; first | (simp_all [okPa, paSh]; done) | (simp_all [okPa, paSh]; omega)
    intro h58; refine gg [2,6,3,1,7,6,3,1,7] ?_; refine bT ?_ ?_
    · intro h64; refine gg [17,2,39,5,16,2,39,5,16,0,9,5,2001,79,3,2,1,32,5,1,0,9,4,2001,3,2,1,33] ?_; refine ⟨.inl rfl, _, rfl, .ofB ?_, trivial⟩; refine okPa_kids ?_; first | (simp_all [okPa, paSh]; done) | (simp_all [okPa, paSh]; omega)
    intro h64; refine gg [17,2,6,4,1,7,6,4,1,7] ?_; refine bN ?_ ?_
    · intro h71; refine gg [17,2,39,5,16,0,9,5,2001,79,3,2,1,32,5,1,0,9,4,2001,3,2,1,33] ?_; refine ⟨.inl rfl, _, rfl, .ofB ?_, trivial⟩; refine okPa_kids ?_; first | (simp_all [okPa, paSh]; done) | (simp_all [okPa, paSh]; omega)
    intro h71; refine gg [17,2,6,5,1,7,6,5,1,7] ?_; refine bT ?_ ?_
    · intro h78; refine gg [17,0,9,5,2001,79,3,2,1,32,5,1,0,9,4,2001,3,2,1,33] ?_; refine ⟨.inl rfl, _, rfl, .ofB ?_, trivial⟩; refine okPa_kids ?_; first | (simp_all [okPa, paSh]; done) | (simp_all [okPa, paSh]; omega)
    intro h78; refine gg [17,0,9,5,2001,79,3,2,1,8,34,31,5,1,0,9,5,2001,5,3,2,1,35] ?_; refine J_loopF (α := { i : Nat // i ≤ t.kids.length ∧ (t.kids.all fun x => x.list.all okPa) = ((t.kids.drop i).all fun x => x.list.all okPa) }) (fun p => [(5, .c (.lit (.int .i64 (p.1 : Int))))]) [(1, _), (2, _), (3, _), (2001, _)] (fun p => t.kids.length - p.1) ⟨0, Nat.zero_le _, rfl⟩ ⟨rfl, rfl, rfl, rfl, rfl, trivial⟩ ?_; rintro ⟨i, hi, hI⟩; dsimp only; refine gg [31,5,2,2] ?_; refine bL ?_ ?_
    · intro h82; obtain ⟨x, hx⟩ := get_some5 (l := t.kids) (i := i) (by omega); have hc := ih x (List.mem_of_getElem? hx); refine gg [0,9,8,2001,82,81,80,5,3,2,1,32,34,31,35,5,6,6,1,7,2] ?_; refine u rfl rfl (r_indexAddr (e := 40) (sz := 7) rfl rfl (by kernel_rfl) rfl rfl (by omega) (pas_at3 hx)) ?_; refine gg [21,7] ?_; refine JR.runC rfl rfl (cl (hc)) rfl ?_ ?_
      · intro h90; refine gg [15,0,9,15,2001,91,90,89,88,87,86,85,82,81,80,5,3,2,1,8,34,37,2,27,1,0] ?_; refine ⟨⟨i + 1, by omega, by rw [hI, drop_get5 hx, List.all_cons, h90, Bool.true_and]⟩, by simp only; omega, rfl, rfl, rfl, rfl, rfl, trivial⟩
      intro h90; refine gg [15,0,9,15,2001,91,90,89,88,87,86,85,82,81,80,5,3,2,1,32,5,1,0,9,15,2001,91,90,89,88,87,86,85,82,81,80,5,3,2,1,33] ?_; refine ⟨.inl rfl, _, rfl, .ofB ?_, trivial⟩; rw [pat_all, hI, drop_get5 hx, List.all_cons, h90, Bool.false_and, Bool.and_false]
    intro h82; refine gg [0,9,8,2001,82,81,80,5,3,2,1,8,36,5,1,0,9,1,2,33] ?_; refine ⟨.inl rfl, _, rfl, .ofB ?_, trivial⟩; have hok : okPa t = true := by
      clear hI; first | (simp_all [okPa, paSh]; done) | (simp_all [okPa, paSh]; omega)
    rw [pat_all, hok, hI, List.drop_eq_nil_of_le (by omega)]
    rfl
  intro h13; refine gg [1,0,9,8,2004,2001,11,10,4,3,2,1,8,37] ?_; refine bE ?_ ?_
  · intro h14; refine gg [1,0,9,8,2004,2001,11,10,4,3,2,1,32,34,31,5,6,6,1,7,18,2] ?_; refine bN ?_ ?_
    · intro h58; refine gg [2,39,5,16,2,39,5,16,2,39,5,16,0,9,5,2001,79,3,2,1,32,5,1,0,9,4,2001,3,2,1,33] ?_; refine ⟨.inl rfl, _, rfl, .ofB ?_, trivial⟩; refine okPa_kids ?_; first | (simp_all [okPa, paSh]; done) | (simp_all [okPa, paSh]; omega)
    intro h58; refine gg [2,6,3,1,7,6,3,1,7] ?_; refine bT ?_ ?_
    · intro h64; refine gg [17,2,39,5,16,2,39,5,16,0,9,5,2001,79,3,2,1,32,5,1,0,9,4,2001,3,2,1,33] ?_; refine ⟨.inl rfl, _, rfl, .ofB ?_, trivial⟩; refine okPa_kids ?_; first | (simp_all [okPa, paSh]; done) | (simp_all [okPa, paSh]; omega)
    intro h64; refine gg [17,2,6,4,1,7,6,4,1,7] ?_; refine bN ?_ ?_
    · intro h71; refine gg [17,2,39,5,16,0,9,5,2001,79,3,2,1,32,5,1,0,9,4,2001,3,2,1,33] ?_; refine ⟨.inl rfl, _, rfl, .ofB ?_, trivial⟩; refine okPa_kids ?_; first | (simp_all [okPa, paSh]; done) | (simp_all [okPa, paSh]; omega)
    intro h71; refine gg [17,2,6,5,1,7,6,5,1,7] ?_; refine bT ?_ ?_
    · intro h78; refine gg [17,0,9,5,2001,79,3,2,1,32,5,1,0,9,4,2001,3,2,1,33] ?_; refine ⟨.inl rfl, _, rfl, .ofB ?_, trivial⟩; refine okPa_kids ?_; first | (simp_all [okPa, paSh]; done) | (simp_all [okPa, paSh]; omega)
    intro h78; refine gg [17,0,9,5,2001,79,3,2,1,8,34,31,5,1,0,9,5,2001,5,3,2,1,35] ?_; refine J_loopF (α := { i : Nat // i ≤ t.kids.length ∧ (t.kids.all fun x => x.list.all okPa) = ((t.kids.drop i).all fun x => x.list.all okPa) }) (fun p => [(5, .c (.lit (.int .i64 (p.1 : Int))))]) [(1, _), (2, _), (3, _), (2001, _)] (fun p => t.kids.length - p.1) ⟨0, Nat.zero_le _, rfl⟩ ⟨rfl, rfl, rfl, rfl, rfl, trivial⟩ ?_; rintro ⟨i, hi, hI⟩; dsimp only; refine gg [31,5,2,2] ?_; refine bL ?_ ?_
    · intro h82; obtain ⟨x, hx⟩ := get_some5 (l := t.kids) (i := i) (by omega); have hc := ih x (List.mem_of_getElem? hx); refine gg [0,9,8,2001,82,81,80,5,3,2,1,32,34,31,35,5,6,6,1,7,2] ?_; refine u rfl rfl (r_indexAddr (e := 40) (sz := 7) rfl rfl (by kernel_rfl) rfl rfl (by omega) (pas_at3 hx)) ?_; refine gg [21,7] ?_; refine JR.runC rfl rfl (cl (hc)) rfl ?_ ?_
      · intro h90; refine gg [15,0,9,15,2001,91,90,89,88,87,86,85,82,81,80,5,3,2,1,8,34,37,2,27,1,0] ?_; refine ⟨⟨i + 1, by omega, by rw [hI, drop_get5 hx, List.all_cons, h90, Bool.true_and]⟩, by simp only; omega, rfl, rfl, rfl, rfl, rfl, trivial⟩
      intro h90; refine gg [15,0,9,15,2001,91,90,89,88,87,86,85,82,81,80,5,3,2,1,32,5,1,0,9,15,2001,91,90,89,88,87,86,85,82,81,80,5,3,2,1,33] ?_; refine ⟨.inl rfl, _, rfl, .ofB ?_, trivial⟩; rw [pat_all, hI, drop_get5 hx, List.all_cons, h90, Bool.false_and, Bool.and_false]
    intro h82; refine gg [0,9,8,2001,82,81,80,5,3,2,1,8,36,5,1,0,9,1,2,33] ?_; refine ⟨.inl rfl, _, rfl, .ofB ?_, trivial⟩; have hok : okPa t = true := by
      clear hI; first | (simp_all [okPa, paSh]; done) | (simp_all [okPa, paSh]; omega)
    rw [pat_all, hok, hI, List.drop_eq_nil_of_le (by omega)]
    rfl
  intro h14; refine gg [1,0,9,8,2004,2001,11,10,4,3,2,1,8,5] ?_; refine bE ?_ ?_
  · intro h16; refine gg [1,0,9,8,2004,2001,15,10,4,3,2,1,32,5,6,3,1,7,6,3,1,11,0,9,6,2004,2001,4,3,2,1,5,6,3,1,7] ?_; refine JR.runC rfl rfl (cl (rName t.nm (by omega))) rfl ?_ ?_
    · intro h22; refine gg [15,0,9,7,2004,2001,23,4,3,2,1,8,34,31,5,6,6,1,7,18,2] ?_; refine bN ?_ ?_
      · intro h58; refine gg [2,39,5,16,2,39,5,16,2,39,5,16,0,9,5,2001,79,3,2,1,32,5,1,0,9,4,2001,3,2,1,33] ?_; refine ⟨.inl rfl, _, rfl, .ofB ?_, trivial⟩; refine okPa_kids ?_; first | (simp_all [okPa, paSh]; done) | (simp_all [okPa, paSh]; omega)
      intro h58; refine gg [2,6,3,1,7,6,3,1,7] ?_; refine bT ?_ ?_
      · intro h64; refine gg [17,2,39,5,16,2,39,5,16,0,9,5,2001,79,3,2,1,32,5,1,0,9,4,2001,3,2,1,33] ?_; refine ⟨.inl rfl, _, rfl, .ofB ?_, trivial⟩; refine okPa_kids ?_; first | (simp_all [okPa, paSh]; done) | (simp_all [okPa, paSh]; omega)
      intro h64; refine gg [17,2,6,4,1,7,6,4,1,7] ?_; refine bN ?_ ?_
      · intro h71; refine gg [17,2,39,5,16,0,9,5,2001,79,3,2,1,32,5,1,0,9,4,2001,3,2,1,33] ?_; refine ⟨.inl rfl, _, rfl, .ofB ?_, trivial⟩; refine okPa_kids ?_; first | (simp_all [okPa, paSh]; done) | (simp_all [okPa, paSh]; omega)
      intro h71; refine gg [17,2,6,5,1,7,6,5,1,7] ?_; refine bT ?_ ?_
      · intro h78; refine gg [17,0,9,5,2001,79,3,2,1,32,5,1,0,9,4,2001,3,2,1,33] ?_; refine ⟨.inl rfl, _, rfl, .ofB ?_, trivial⟩; refine okPa_kids ?_; first | (simp_all [okPa, paSh]; done) | (simp_all [okPa, paSh]; omega)
      intro h78; refine gg [17,0,9,5,2001,79,3,2,1,8,34,31,5,1,0,9,5,2001,5,3,2,1,35] ?_; refine J_loopF (α := { i : Nat // i ≤ t.kids.length ∧ (t.kids.all fun x => x.list.all okPa) = ((t.kids.drop i).all fun x => x.list.all okPa) }) (fun p => [(5, .c (.lit (.int .i64 (p.1 : Int))))]) [(1, _), (2, _), (3, _), (2001, _)] (fun p => t.kids.length - p.1) ⟨0, Nat.zero_le _, rfl⟩ ⟨rfl, rfl, rfl, rfl, rfl, trivial⟩ ?_; rintro ⟨i, hi, hI⟩; dsimp only; refine gg [31,5,2,2] ?_; refine bL ?_ ?_
      · intro h82; obtain ⟨x, hx⟩ := get_some5 (l := t.kids) (i := i) (by omega); have hc := ih x (List.mem_of_getElem? hx); refine gg [0,9,8,2001,82,81,80,5,3,2,1,32,34,31,35,5,6,6,1,7,2] ?_; refine u rfl rfl (r_indexAddr (e := 40) (sz := 7) rfl rfl (by kernel_rfl) rfl rfl (by omega) (pas_at3 hx)) ?_; refine gg [21,7] ?_; refine JR.runC rfl rfl (cl (hc)) rfl ?_ ?_
        · intro h90; refine gg [15,0,9,15,2001,91,90,89,88,87,86,85,82,81,80,5,3,2,1,8,34,37,2,27,1,0] ?_; refine ⟨⟨i + 1, by omega, by rw [hI, drop_get5 hx, List.all_cons, h90, Bool.true_and]⟩, by simp only; omega, rfl, rfl, rfl, rfl, rfl, trivial⟩
        intro h90; refine gg [15,0,9,15,2001,91,90,89,88,87,86,85,82,81,80,5,3,2,1,32,5,1,0,9,15,2001,91,90,89,88,87,86,85,82,81,80,5,3,2,1,33] ?_; refine ⟨.inl rfl, _, rfl, .ofB ?_, trivial⟩; rw [pat_all, hI, drop_get5 hx, List.all_cons, h90, Bool.false_and, Bool.and_false]
      intro h82; refine gg [0,9,8,2001,82,81,80,5,3,2,1,8,36,5,1,0,9,1,2,33] ?_; refine ⟨.inl rfl, _, rfl, .ofB ?_, trivial⟩; have hok : okPa t = true := by
        clear hI; first | (simp_all [okPa, paSh]; done) | (simp_all [okPa, paSh]; omega)
      rw [pat_all, hok, hI, List.drop_eq_nil_of_le (by omega)]
      rfl
    intro h22; refine gg [15,0,9,7,2004,2001,23,4,3,2,1,32,5,1,0,9,6,2004,2001,4,3,2,1,33] ?_; refine ⟨.inl rfl, _, rfl, .ofB ?_, trivial⟩; refine okPa_kids ?_; first | (simp_all [okPa, paSh]; done) | (simp_all [okPa, paSh]; omega)
  intro h16; refine gg [1,0,9,8,2004,2001,15,10,4,3,2,1,8,5] ?_; refine bE ?_ ?_
  · intro h25; refine gg [1,0,9,8,2004,2001,24,10,4,3,2,1,32,37,6,4,1,7,6,4,1,11,0,9,6,2004,2001,4,3,2,1,31,5,6,6,1,7,18,2] ?_; refine bN ?_ ?_
    · intro h58; refine gg [2,39,5,16,2,39,5,16,2,39,5,16,0,9,5,2001,79,3,2,1,32,5,1,0,9,4,2001,3,2,1,33] ?_; refine ⟨.inl rfl, _, rfl, .ofB ?_, trivial⟩; refine okPa_kids ?_; first | (simp_all [okPa, paSh]; done) | (simp_all [okPa, paSh]; omega)
    intro h58; refine gg [2,6,3,1,7,6,3,1,7] ?_; refine bT ?_ ?_
    · intro h64; refine gg [17,2,39,5,16,2,39,5,16,0,9,5,2001,79,3,2,1,32,5,1,0,9,4,2001,3,2,1,33] ?_; refine ⟨.inl rfl, _, rfl, .ofB ?_, trivial⟩; refine okPa_kids ?_; first | (simp_all [okPa, paSh]; done) | (simp_all [okPa, paSh]; omega)
    intro h64; refine gg [17,2,6,4,1,7,6,4,1,7] ?_; refine bN ?_ ?_
    · intro h71; refine gg [17,2,39,5,16,0,9,5,2001,79,3,2,1,32,5,1,0,9,4,2001,3,2,1,33] ?_; refine ⟨.inl rfl, _, rfl, .ofB ?_, trivial⟩; refine okPa_kids ?_; first | (simp_all [okPa, paSh]; done) | (simp_all [okPa, paSh]; omega)
    intro h71; refine gg [17,2,6,5,1,7,6,5,1,7] ?_; refine bT ?_ ?_
    · intro h78; refine gg [17,0,9,5,2001,79,3,2,1,32,5,1,0,9,4,2001,3,2,1,33] ?_; refine ⟨.inl rfl, _, rfl, .ofB ?_, trivial⟩; refine okPa_kids ?_; first | (simp_all [okPa, paSh]; done) | (simp_all [okPa, paSh]; omega)
    intro h78; refine gg [17,0,9,5,2001,79,3,2,1,8,34,31,5,1,0,9,5,2001,5,3,2,1,35] ?_; refine J_loopF (α := { i : Nat // i ≤ t.kids.length ∧ (t.kids.all fun x => x.list.all okPa) = ((t.kids.drop i).all fun x => x.list.all okPa) }) (fun p => [(5, .c (.lit (.int .i64 (p.1 : Int))))]) [(1, _), (2, _), (3, _), (2001, _)] (fun p => t.kids.length - p.1) ⟨0, Nat.zero_le _, rfl⟩ ⟨rfl, rfl, rfl, rfl, rfl, trivial⟩ ?_; rintro ⟨i, hi, hI⟩; dsimp only; refine gg [31,5,2,2] ?_; refine bL ?_ ?_
    · intro h82; obtain ⟨x, hx⟩ := get_some5 (l := t.kids) (i := i) (by omega); have hc := ih x (List.mem_of_getElem? hx); refine gg [0,9,8,2001,82,81,80,5,3,2,1,32,34,31,35,5,6,6,1,7,2] ?_; refine u rfl rfl (r_indexAddr (e := 40) (sz := 7) rfl rfl (by kernel_rfl) rfl rfl (by omega) (pas_at3 hx)) ?_; refine gg [21,7] ?_; refine JR.runC rfl rfl (cl (hc)) rfl ?_ ?_
      · intro h90; refine gg [15,0,9,15,2001,91,90,89,88,87,86,85,82,81,80,5,3,2,1,8,34,37,2,27,1,0] ?_; refine ⟨⟨i + 1, by omega, by rw [hI, drop_get5 hx, List.all_cons, h90, Bool.true_and]⟩, by simp only; omega, rfl, rfl, rfl, rfl, rfl, trivial⟩
      intro h90; refine gg [15,0,9,15,2001,91,90,89,88,87,86,85,82,81,80,5,3,2,1,32,5,1,0,9,15,2001,91,90,89,88,87,86,85,82,81,80,5,3,2,1,33] ?_; refine ⟨.inl rfl, _, rfl, .ofB ?_, trivial⟩; rw [pat_all, hI, drop_get5 hx, List.all_cons, h90, Bool.false_and, Bool.and_false]
    intro h82; refine gg [0,9,8,2001,82,81,80,5,3,2,1,8,36,5,1,0,9,1,2,33] ?_; refine ⟨.inl rfl, _, rfl, .ofB ?_, trivial⟩; have hok : okPa t = true := by
      clear hI; first | (simp_all [okPa, paSh]; done) | (simp_all [okPa, paSh]; omega)
    rw [pat_all, hok, hI, List.drop_eq_nil_of_le (by omega)]
    rfl
  intro h25; refine gg [1,0,9,8,2004,2001,24,10,4,3,2,1,8,5] ?_; refine bE ?_ ?_
  · intro h30; refine gg [1,0,9,8,2004,2001,29,10,4,3,2,1,32,5,6,4,1,7,6,4,1,11,0,9,6,2004,2001,4,3,2,1,5,6,4,1,7] ?_; refine bL ?_ ?_
    · intro h36; refine gg [2,39,3,16,0,9,7,2004,2001,41,4,3,2,1,32,5,1,0,9,6,2004,2001,4,3,2,1,33] ?_; refine ⟨.inl rfl, _, rfl, .ofB ?_, trivial⟩; refine okPa_kids ?_; first | (simp_all [okPa, paSh]; done) | (simp_all [okPa, paSh]; omega)
    intro h36; refine gg [2,6,4,1,7] ?_; refine bG ?_ ?_
    · intro h40; refine gg [17,0,9,7,2004,2001,41,4,3,2,1,32,5,1,0,9,6,2004,2001,4,3,2,1,33] ?_; refine ⟨.inl rfl, _, rfl, .ofB ?_, trivial⟩; refine okPa_kids ?_; first | (simp_all [okPa, paSh]; done) | (simp_all [okPa, paSh]; omega)
    intro h40; refine gg [17,0,9,7,2004,2001,41,4,3,2,1,8,34,31,5,6,6,1,7,18,2] ?_; refine bN ?_ ?_
    · intro h58; refine gg [2,39,5,16,2,39,5,16,2,39,5,16,0,9,5,2001,79,3,2,1,32,5,1,0,9,4,2001,3,2,1,33] ?_; refine ⟨.inl rfl, _, rfl, .ofB ?_, trivial⟩; refine okPa_kids ?_; first | (simp_all [okPa, paSh]; done) | (simp_all [okPa, paSh]; omega)
    intro h58; refine gg [2,6,3,1,7,6,3,1,7] ?_; refine bT ?_ ?_
    · intro h64; refine gg [17,2,39,5,16,2,39,5,16,0,9,5,2001,79,3,2,1,32,5,1,0,9,4,2001,3,2,1,33] ?_; refine ⟨.inl rfl, _, rfl, .ofB ?_, trivial⟩; refine okPa_kids ?_; first | (simp_all [okPa, paSh]; done) | (simp_all [okPa, paSh]; omega)
    intro h64; refine gg [17,2,6,4,1,7,6,4,1,7] ?_; refine bN ?_ ?_
    · intro h71; refine gg [17,2,39,5,16,0,9,5,2001,79,3,2,1,32,5,1,0,9,4,2001,3,2,1,33] ?_; refine ⟨.inl rfl, _, rfl, .ofB ?_, trivial⟩; refine okPa_kids ?_; first | (simp_all [okPa, paSh]; done) | (simp_all [okPa, paSh]; omega)
    intro h71; refine gg [17,2,6,5,1,7,6,5,1,7] ?_; refine bT ?_ ?_
    · intro h78; refine gg [17,0,9,5,2001,79,3,2,1,32,5,1,0,9,4,2001,3,2,1,33] ?_; refine ⟨.inl rfl, _, rfl, .ofB ?_, trivial⟩; refine okPa_kids ?_; first | (simp_all [okPa, paSh]; done) | (simp_all [okPa, paSh]; omega)
    intro h78; refine gg [17,0,9,5,2001,79,3,2,1,8,34,31,5,1,0,9,5,2001,5,3,2,1,35] ?_; refine J_loopF (α := { i : Nat // i ≤ t.kids.length ∧ (t.kids.all fun x => x.list.all okPa) = ((t.kids.drop i).all fun x => x.list.all okPa) }) (fun p => [(5, .c (.lit (.int .i64 (p.1 : Int))))]) [(1, _), (2, _), (3, _), (2001, _)] (fun p => t.kids.length - p.1) ⟨0, Nat.zero_le _, rfl⟩ ⟨rfl, rfl, rfl, rfl, rfl, trivial⟩ ?_; rintro ⟨i, hi, hI⟩; dsimp only; refine gg [31,5,2,2] ?_; refine bL ?_ ?_
    · intro h82; obtain ⟨x, hx⟩ := get_some5 (l := t.kids) (i := i) (by omega); have hc := ih x (List.mem_of_getElem? hx); refine gg [0,9,8,2001,82,81,80,5,3,2,1,32,34,31,35,5,6,6,1,7,2] ?_; refine u rfl rfl (r_indexAddr (e := 40) (sz := 7) rfl rfl (by kernel_rfl) rfl rfl (by omega) (pas_at3 hx)) ?_; refine gg [21,7] ?_; refine JR.runC rfl rfl (cl (hc)) rfl ?_ ?_
      · intro h90; refine gg [15,0,9,15,2001,91,90,89,88,87,86,85,82,81,80,5,3,2,1,8,34,37,2,27,1,0] ?_; refine ⟨⟨i + 1, by omega, by rw [hI, drop_get5 hx, List.all_cons, h90, Bool.true_and]⟩, by simp only; omega, rfl, rfl, rfl, rfl, rfl, trivial⟩
      intro h90; refine gg [15,0,9,15,2001,91,90,89,88,87,86,85,82,81,80,5,3,2,1,32,5,1,0,9,15,2001,91,90,89,88,87,86,85,82,81,80,5,3,2,1,33] ?_; refine ⟨.inl rfl, _, rfl, .ofB ?_, trivial⟩; rw [pat_all, hI, drop_get5 hx, List.all_cons, h90, Bool.false_and, Bool.and_false]
    intro h82; refine gg [0,9,8,2001,82,81,80,5,3,2,1,8,36,5,1,0,9,1,2,33] ?_; refine ⟨.inl rfl, _, rfl, .ofB ?_, trivial⟩; have hok : okPa t = true := by
      clear hI; first | (simp_all [okPa, paSh]; done) | (simp_all [okPa, paSh]; omega)
    rw [pat_all, hok, hI, List.drop_eq_nil_of_le (by omega)]
    rfl
  intro h30; refine gg [1,0,9,8,2004,2001,29,10,4,3,2,1,8,5] ?_; refine bE ?_ ?_
  · intro h43; refine gg [1,0,9,8,2004,2001,42,10,4,3,2,1,32,5,6,5,1,7,6,5,1,11,0,9,6,2004,2001,4,3,2,1,5,6,5,1,7,30] ?_; refine bG ?_ ?_
    · intro h50; refine gg [0,9,7,2004,2001,50,4,3,2,1,32,5,1,0,9,6,2004,2001,4,3,2,1,33] ?_; refine ⟨.inl rfl, _, rfl, .ofB ?_, trivial⟩; refine okPa_kids ?_; first | (simp_all [okPa, paSh]; done) | (simp_all [okPa, paSh]; omega)
    intro h50; refine gg [0,9,7,2004,2001,50,4,3,2,1,8,34,31,5,6,6,1,7,18,2] ?_; refine bN ?_ ?_
    · intro h58; refine gg [2,39,5,16,2,39,5,16,2,39,5,16,0,9,5,2001,79,3,2,1,32,5,1,0,9,4,2001,3,2,1,33] ?_; refine ⟨.inl rfl, _, rfl, .ofB ?_, trivial⟩; refine okPa_kids ?_; first | (simp_all [okPa, paSh]; done) | (simp_all [okPa, paSh]; omega)
    intro h58; refine gg [2,6,3,1,7,6,3,1,7] ?_; refine bT ?_ ?_
    · intro h64; refine gg [17,2,39,5,16,2,39,5,16,0,9,5,2001,79,3,2,1,32,5,1,0,9,4,2001,3,2,1,33] ?_; refine ⟨.inl rfl, _, rfl, .ofB ?_, trivial⟩; refine okPa_kids ?_; first | (simp_all [okPa, paSh]; done) | (simp_all [okPa, paSh]; omega)
    intro h64; refine gg [17,2,6,4,1,7,6,4,1,7] ?_; refine bN ?_ ?_
    · intro h71; refine gg [17,2,39,5,16,0,9,5,2001,79,3,2,1,32,5,1,0,9,4,2001,3,2,1,33] ?_; refine ⟨.inl rfl, _, rfl, .ofB ?_, trivial⟩; refine okPa_kids ?_; first | (simp_all [okPa, paSh]; done) | (simp_all [okPa, paSh]; omega)
    intro h71; refine gg [17,2,6,5,1,7,6,5,1,7] ?_; refine bT ?_ ?_
    · intro h78; refine gg [17,0,9,5,2001,79,3,2,1,32,5,1,0,9,4,2001,3,2,1,33] ?_; refine ⟨.inl rfl, _, rfl, .ofB ?_, trivial⟩; refine okPa_kids ?_; first | (simp_all [okPa, paSh]; done) | (simp_all [okPa, paSh]; omega)
    intro h78; refine gg [17,0,9,5,2001,79,3,2,1,8,34,31,5,1,0,9,5,2001,5,3,2,1,35] ?_; refine J_loopF (α := { i : Nat // i ≤ t.kids.length ∧ (t.kids.all fun x => x.list.all okPa) = ((t.kids.drop i).all fun x => x.list.all okPa) }) (fun p => [(5, .c (.lit (.int .i64 (p.1 : Int))))]) [(1, _), (2, _), (3, _), (2001, _)] (fun p => t.kids.length - p.1) ⟨0, Nat.zero_le _, rfl⟩ ⟨rfl, rfl, rfl, rfl, rfl, trivial⟩ ?_; rintro ⟨i, hi, hI⟩; dsimp only; refine gg [31,5,2,2] ?_; refine bL ?_ ?_
    · intro h82; obtain ⟨x, hx⟩ := get_some5 (l := t.kids) (i := i) (by omega); have hc := ih x (List.mem_of_getElem? hx); refine gg [0,9,8,2001,82,81,80,5,3,2,1,32,34,31,35,5,6,6,1,7,2] ?_; refine u rfl rfl (r_indexAddr (e := 40) (sz := 7) rfl rfl (by kernel_rfl) rfl rfl (by omega) (pas_at3 hx)) ?_; refine gg [21,7] ?_; refine JR.runC rfl rfl (cl (hc)) rfl ?_ ?_
      · intro h90; refine gg [15,0,9,15,2001,91,90,89,88,87,86,85,82,81,80,5,3,2,1,8,34,37,2,27,1,0] ?_; refine ⟨⟨i + 1, by omega, by rw [hI, drop_get5 hx, List.all_cons, h90, Bool.true_and]⟩, by simp only; omega, rfl, rfl, rfl, rfl, rfl, trivial⟩
      intro h90; refine gg [15,0,9,15,2001,91,90,89,88,87,86,85,82,81,80,5,3,2,1,32,5,1,0,9,15,2001,91,90,89,88,87,86,85,82,81,80,5,3,2,1,33] ?_; refine ⟨.inl rfl, _, rfl, .ofB ?_, trivial⟩; rw [pat_all, hI, drop_get5 hx, List.all_cons, h90, Bool.false_and, Bool.and_false]
    intro h82; refine gg [0,9,8,2001,82,81,80,5,3,2,1,8,36,5,1,0,9,1,2,33] ?_; refine ⟨.inl rfl, _, rfl, .ofB ?_, trivial⟩; have hok : okPa t = true := by
      clear hI; first | (simp_all [okPa, paSh]; done) | (simp_all [okPa, paSh]; omega)
    rw [pat_all, hok, hI, List.drop_eq_nil_of_le (by omega)]
    rfl
  intro h43; refine gg [1,0,9,8,2004,2001,42,10,4,3,2,1,8,31,5] ?_; refine bE ?_ ?_
  · intro h52; refine gg [1,0,9,8,2004,2001,51,10,4,3,2,1,32,34,32,37,1,0,9,6,2004,2001,4,3,2,1,31,5,6,6,1,7,18,2] ?_; refine bN ?_ ?_
    · intro h58; refine gg [2,39,5,16,2,39,5,16,2,39,5,16,0,9,5,2001,79,3,2,1,32,5,1,0,9,4,2001,3,2,1,33] ?_; refine ⟨.inl rfl, _, rfl, .ofB ?_, trivial⟩; refine okPa_kids ?_; first | (simp_all [okPa, paSh]; done) | (simp_all [okPa, paSh]; omega)
    intro h58; refine gg [2,6,3,1,7,6,3,1,7] ?_; refine bT ?_ ?_
    · intro h64; refine gg [17,2,39,5,16,2,39,5,16,0,9,5,2001,79,3,2,1,32,5,1,0,9,4,2001,3,2,1,33] ?_; refine ⟨.inl rfl, _, rfl, .ofB ?_, trivial⟩; refine okPa_kids ?_; first | (simp_all [okPa, paSh]; done) | (simp_all [okPa, paSh]; omega)
    intro h64; refine gg [17,2,6,4,1,7,6,4,1,7] ?_; refine bN ?_ ?_
    · intro h71; refine gg [17,2,39,5,16,0,9,5,2001,79,3,2,1,32,5,1,0,9,4,2001,3,2,1,33] ?_; refine ⟨.inl rfl, _, rfl, .ofB ?_, trivial⟩; refine okPa_kids ?_; first | (simp_all [okPa, paSh]; done) | (simp_all [okPa, paSh]; omega)
    intro h71; refine gg [17,2,6,5,1,7,6,5,1,7] ?_; refine bT ?_ ?_
    · intro h78; refine gg [17,0,9,5,2001,79,3,2,1,32,5,1,0,9,4,2001,3,2,1,33] ?_; refine ⟨.inl rfl, _, rfl, .ofB ?_, trivial⟩; refine okPa_kids ?_; first | (simp_all [okPa, paSh]; done) | (simp_all [okPa, paSh]; omega)
    intro h78; refine gg [17,0,9,5,2001,79,3,2,1,8,34,31,5,1,0,9,5,2001,5,3,2,1,35] ?_; refine J_loopF (α := { i : Nat // i ≤ t.kids.length ∧ (t.kids.all fun x => x.list.all okPa) = ((t.kids.drop i).all fun x => x.list.all okPa) }) (fun p => [(5, .c (.lit (.int .i64 (p.1 : Int))))]) [(1, _), (2, _), (3, _), (2001, _)] (fun p => t.kids.length - p.1) ⟨0, Nat.zero_le _, rfl⟩ ⟨rfl, rfl, rfl, rfl, rfl, trivial⟩ ?_; rintro ⟨i, hi, hI⟩; dsimp only; refine gg [31,5,2,2] ?_; refine bL ?_ ?_
    · intro h82; obtain ⟨x, hx⟩ := get_some5 (l := t.kids) (i := i) (by omega); have hc := ih x (List.mem_of_getElem? hx); refine gg [0,9,8,2001,82,81,80,5,3,2,1,32,34,31,35,5,6,6,1,7,2] ?_; refine u rfl rfl (r_indexAddr (e := 40) (sz := 7) rfl rfl (by kernel_rfl) rfl rfl (by omega) (pas_at3 hx)) ?_; refine gg [21,7] ?_; refine JR.runC rfl rfl (cl (hc)) rfl ?_ ?_
      · intro h90; refine gg [15,0,9,15,2001,91,90,89,88,87,86,85,82,81,80,5,3,2,1,8,34,37,2,27,1,0] ?_; refine ⟨⟨i + 1, by omega, by rw [hI, drop_get5 hx, List.all_cons, h90, Bool.true_and]⟩, by simp only; omega, rfl, rfl, rfl, rfl, rfl, trivial⟩
      intro h90; refine gg [15,0,9,15,2001,91,90,89,88,87,86,85,82,81,80,5,3,2,1,32,5,1,0,9,15,2001,91,90,89,88,87,86,85,82,81,80,5,3,2,1,33] ?_; refine ⟨.inl rfl, _, rfl, .ofB ?_, trivial⟩; rw [pat_all, hI, drop_get5 hx, List.all_cons, h90, Bool.false_and, Bool.and_false]
    intro h82; refine gg [0,9,8,2001,82,81,80,5,3,2,1,8,36,5,1,0,9,1,2,33] ?_; refine ⟨.inl rfl, _, rfl, .ofB ?_, trivial⟩; have hok : okPa t = true := by
      clear hI; first | (simp_all [okPa, paSh]; done) | (simp_all [okPa, paSh]; omega)
    rw [pat_all, hok, hI, List.drop_eq_nil_of_le (by omega)]
    rfl
  intro h52; refine gg [1,0,9,8,2004,2001,51,10,4,3,2,1,8,37] ?_; refine bE ?_ ?_
  · intro h53; refine gg [1,0,9,7,2004,2001,51,4,3,2,1,32,37,1,0,9,6,2004,2001,4,3,2,1,31,5,6,6,1,7,18,2] ?_; refine bN ?_ ?_
    · intro h58; refine gg [2,39,5,16,2,39,5,16,2,39,5,16,0,9,5,2001,79,3,2,1,32,5,1,0,9,4,2001,3,2,1,33] ?_; refine ⟨.inl rfl, _, rfl, .ofB ?_, trivial⟩; refine okPa_kids ?_; first | (simp_all [okPa, paSh]; done) | (simp_all [okPa, paSh]; omega)
    intro h58; refine gg [2,6,3,1,7,6,3,1,7] ?_; refine bT ?_ ?_
    · intro h64; refine gg [17,2,39,5,16,2,39,5,16,0,9,5,2001,79,3,2,1,32,5,1,0,9,4,2001,3,2,1,33] ?_; refine ⟨.inl rfl, _, rfl, .ofB ?_, trivial⟩; refine okPa_kids ?_; first | (simp_all [okPa, paSh]; done) | (simp_all [okPa, paSh]; omega)
    intro h64; refine gg [17,2,6,4,1,7,6,4,1,7] ?_; refine bN ?_ ?_
    · intro h71; refine gg [17,2,39,5,16,0,9,5,2001,79,3,2,1,32,5,1,0,9,4,2001,3,2,1,33] ?_; refine ⟨.inl rfl, _, rfl, .ofB ?_, trivial⟩; refine okPa_kids ?_; first | (simp_all [okPa, paSh]; done) | (simp_all [okPa, paSh]; omega)
    intro h71; refine gg [17,2,6,5,1,7,6,5,1,7] ?_; refine bT ?_ ?_
    · intro h78; refine gg [17,0,9,5,2001,79,3,2,1,32,5,1,0,9,4,2001,3,2,1,33] ?_; refine ⟨.inl rfl, _, rfl, .ofB ?_, trivial⟩; refine okPa_kids ?_; first | (simp_all [okPa, paSh]; done) | (simp_all [okPa, paSh]; omega)
    intro h78; refine gg [17,0,9,5,2001,79,3,2,1,8,34,31,5,1,0,9,5,2001,5,3,2,1,35] ?_; refine J_loopF (α := { i : Nat // i ≤ t.kids.length ∧ (t.kids.all fun x => x.list.all okPa) = ((t.kids.drop i).all fun x => x.list.all okPa) }) (fun p => [(5, .c (.lit (.int .i64 (p.1 : Int))))]) [(1, _), (2, _), (3, _), (2001, _)] (fun p => t.kids.length - p.1) ⟨0, Nat.zero_le _, rfl⟩ ⟨rfl, rfl, rfl, rfl, rfl, trivial⟩ ?_; rintro ⟨i, hi, hI⟩; dsimp only; refine gg [31,5,2,2] ?_; refine bL ?_ ?_
    · intro h82; obtain ⟨x, hx⟩ := get_some5 (l := t.kids) (i := i) (by omega); have hc := ih x (List.mem_of_getElem? hx); refine gg [0,9,8,2001,82,81,80,5,3,2,1,32,34,31,35,5,6,6,1,7,2] ?_; refine u rfl rfl (r_indexAddr (e := 40) (sz := 7) rfl rfl (by kernel_rfl) rfl rfl (by omega) (pas_at3 hx)) ?_; refine gg [21,7] ?_; refine JR.runC rfl rfl (cl (hc)) rfl ?_ ?_
      · intro h90; refine gg [15,0,9,15,2001,91,90,89,88,87,86,85,82,81,80,5,3,2,1,8,34,37,2,27,1,0] ?_; refine ⟨⟨i + 1, by omega, by rw [hI, drop_get5 hx, List.all_cons, h90, Bool.true_and]⟩, by simp only; omega, rfl, rfl, rfl, rfl, rfl, trivial⟩
      intro h90; refine gg [15,0,9,15,2001,91,90,89,88,87,86,85,82,81,80,5,3,2,1,32,5,1,0,9,15,2001,91,90,89,88,87,86,85,82,81,80,5,3,2,1,33] ?_; refine ⟨.inl rfl, _, rfl, .ofB ?_, trivial⟩; rw [pat_all, hI, drop_get5 hx, List.all_cons, h90, Bool.false_and, Bool.and_false]
    intro h82; refine gg [0,9,8,2001,82,81,80,5,3,2,1,8,36,5,1,0,9,1,2,33] ?_; refine ⟨.inl rfl, _, rfl, .ofB ?_, trivial⟩; have hok : okPa t = true := by
      clear hI; first | (simp_all [okPa, paSh]; done) | (simp_all [okPa, paSh]; omega)
    rw [pat_all, hok, hI, List.drop_eq_nil_of_le (by omega)]
    rfl
  intro h53; refine gg [1,0,9,7,2004,2001,51,4,3,2,1,8,5,1,0,9,6,2004,2001,4,3,2,1,33] ?_; refine ⟨.inl rfl, _, rfl, .ofB ?_, trivial⟩; refine okPa_kids ?_; first | (simp_all [okPa, paSh]; done) | (simp_all [okPa, paSh]; omega)

theorem rPat {n : Nat} (hn : n ≤ 1000000000) {p : Pa} (h : PaK n p) : Con Tryz.prog 34 [.agg (paX p)] [] (.c (.lit (.bool (p.list.all okPa)))) [] := by
  induction h with
  | mk h1 _ hk _ ih => exact rPatStep (by simp only [Pa.kids]; omega) (by simp only [Pa.nm]; omega) ih
def ndB : List (List UInt8) → List (List UInt8) → Bool
  | _, [] => true
  | s, x :: r => !s.contains x && ndB (s ++ [x]) r
theorem ndB_run : ∀ (l : List Pa) (s : List (List UInt8)), (runL contP stepP s l).1 = (l.all okPa && ndB s ((l.filter fun q => decide (q.kind = 2)).map Pa.nm))
  | [], _ => rfl
  | q :: r, s => by
    rw [runL, List.all_cons]
    by_cases hk : q.kind = 2
    · rw [List.filter_cons_of_pos (p := fun q : Pa => decide (q.kind = 2)) (a := q) (decide_eq_true hk), List.map_cons, ndB]; have hc : contP s q = (okPa q && !s.contains q.nm) := by rw [contP, decide_eq_true hk, Bool.true_and]
      cases h1 : okPa q with
      | false => rw [hc, h1]; rfl
      | true =>
        cases h2 : s.contains q.nm with
        | true => rw [hc, h1, h2]; simp
        | false =>
          have hs : stepP s q = s ++ [q.nm] := by rw [stepP, hc, h1, h2, decide_eq_true hk]; rfl
          rw [hc, h1, h2]
          show (runL contP stepP (stepP s q) r).1 = _
          rw [ndB_run r, hs]
          simp
    rw [List.filter_cons_of_neg (p := fun q : Pa => decide (q.kind = 2)) (a := q) (fun e => hk (of_decide_eq_true e))]; have hc : contP s q = okPa q := by rw [contP, decide_eq_false hk, Bool.false_and]; simp
    cases h1 : okPa q with
    | false => rw [hc, h1]; rfl
    | true =>
      have hs : stepP s q = s := by rw [stepP, hc, h1, decide_eq_false hk]; rfl
      rw [hc, h1]
      show (runL contP stepP (stepP s q) r).1 = _
      rw [ndB_run r, hs]
      simp
theorem check_pat (p : Pa) : mCheckPat p = (p.list.all okPa && ndB [] (nms p)) := ndB_run p.list []
theorem take_snoc5 {α : Type} {l : List α} {i : Nat} {q : α} (h : l[i]? = some q) : l.take (i + 1) = l.take i ++ [q] := by
  rw [List.take_add_one, h]; rfl
theorem strs_take (l : List (List UInt8)) (i : Nat) : strs (l.take i) = (strs l).take i := by simp [strs, List.map_take]
theorem rRightPat {n : Nat} (hn : n ≤ 1000000000) {p : Pa} (h : PaK n p) (hs : (nms p).length ≤ 1000000000) : Con Tryz.prog 18 [.agg (paX p)] [] (.c (.lit (.bool (mCheckPat p)))) [] := by
  have hP := rPat hn h; have hN := rNamesOf hn h hs; have hl := strs_len (nms p); rw [check_pat]
  generalize nms p = l at *
  generalize p.list.all okPa = b0 at *
  refine gg [38,5,22,2001,1,0,9,3,2001,2,1,31,5,20,7] ?_; refine JR.runC rfl rfl (cl (hP)) rfl ?_ ?_
  · intro h6; refine gg [15,0,9,4,2001,7,2,1,8,34,5,20,7] ?_; refine gc (hN) [28,0,9,2,3,2,31,31] ?_; refine J_turn (t_ownC 3 rfl) (by kernel_rfl) ?_; refine gg [37,1,0,9,3,4,3,2,35] ?_; refine J_loopF (α := { i : Nat // i ≤ l.length ∧ ndB [] l = ndB (l.take i) (l.drop i) }) (fun p => [(4, .c (.lit (.int .i64 (p.1 : Int))))]) [(2, _), (3, _)] (fun p => l.length - p.1) ⟨0, Nat.zero_le _, rfl⟩ ⟨rfl, rfl, rfl, trivial⟩ ?_; rintro ⟨i, hi, hI⟩; dsimp only; refine gg [31,5,2,2,18] ?_; refine bL ?_ ?_
    · intro h13; obtain ⟨x, hx⟩ := get_some5 (l := l) (i := i) (by omega); have hH := rHas (l.take i) x (by rw [List.length_take]; omega); rw [strs_take] at hH; refine gg [0,9,7,13,12,11,10,4,3,2,32,34,31,35,5,2,2] ?_; refine u rfl rfl (r_sliceTo (e := 9) (sz := 1) (k := i) rfl rfl (by kernel_rfl) rfl rfl (by omega)) ?_; refine gg [2,2] ?_; refine u rfl rfl (r_indexAddr (e := 9) (sz := 1) rfl rfl (by kernel_rfl) rfl rfl (by omega) (strs_at hx)) ?_; refine gg [12] ?_; refine JR.runC rfl rfl (cl (hH)) rfl ?_ ?_
      · intro h23; refine gg [4,9,15,23,22,21,20,19,18,17,16,13,12,11,10,4,3,2,32,5,1,0,9,15,23,22,21,20,19,18,17,16,13,12,11,10,4,3,2,33] ?_; refine ⟨.inl rfl, _, rfl, .ofB ?_, trivial⟩; rw [hI, drop_get5 hx, ndB, h23]
        simp
      intro h23; refine gg [4,9,15,23,22,21,20,19,18,17,16,13,12,11,10,4,3,2,8,34,37,2,27,1,0] ?_; refine ⟨⟨i + 1, by omega, by rw [hI, drop_get5 hx, ndB, h23, take_snoc5 hx]; rfl⟩, by simp only; omega, rfl, rfl, rfl, trivial⟩
    intro h13; refine gg [0,9,7,13,12,11,10,4,3,2,8,36,5,1,0,9,1,2,33] ?_; refine ⟨.inl rfl, _, rfl, .ofB ?_, trivial⟩; rw [hI, List.drop_eq_nil_of_le (by omega), ndB]
    simp_all
  intro h6; refine gg [15,0,9,4,2001,7,2,1,32,5,1,0,9,3,2001,2,1,33] ?_; refine ⟨.inl rfl, _, rfl, .ofB ?_, trivial⟩
  simp_all


end Go.Proofs.YtlagglkpbnbmeaaGreatDoor

