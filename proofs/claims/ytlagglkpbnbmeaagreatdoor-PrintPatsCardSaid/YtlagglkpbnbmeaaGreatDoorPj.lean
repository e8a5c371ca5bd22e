/- The walk of the law PrintPats. -/
import Derived.Test.YtlagglkpbnbmeaaGreatDoorShC
import Derived.Test.YtlagglkpbnbmeaaGreatDoorRU
import Derived.Test.YtlagglkpbnbmeaaGreatDoorRD
namespace Go.Proofs.YtlagglkpbnbmeaaGreatDoor
open Go Go.RowKit
set_option maxRecDepth 100000
set_option maxHeartbeats 4000000
set_option linter.unusedVariables false
set_option linter.unusedSimpArgs false

theorem rSamePat {n : Nat} (hn : n ≤ 1000000000) {p : Pa} (h : PaB n p) : ∀ p', Con Tryz.prog 21 [.agg (paX p), .agg (paX p')] [] (.c (.lit (.bool (p.same p')))) [] := by
  induction h with
  | @mk k a b nm m s kids hl _ ih =>
    rintro ⟨k', a', b', nm', m', s', kids'⟩; rw [Pa.same, pasSame_all]; have hlk := pasD_len kids; have hlb := pasD_len kids'; have hlk2 : (pasD (Pa.mk k a b nm m s kids).kids).length = kids.length := hlk; have hlb2 : (pasD (Pa.mk k' a' b' nm' m' s' kids').kids).length = kids'.length := hlb; refine gg [38,5,22,2002,22,2003,1,0,9,5,2003,2002,4,3,2,31,5,6,0,1,7,6,0,1,7] ?_; refine bN ?_ ?_
    · intro h10; refine gg [2,39,5,16,2,39,5,16,2,39,5,16,2,39,7,16,0,9,6,2003,2002,40,4,3,2,32,5,1,0,9,5,2003,2002,4,3,2,33] ?_; refine ⟨.inl rfl, _, rfl, .ofB ?_, trivial⟩; simp only [Pa.kind, Pa.nm, Pa.n, Pa.s, Pa.kids] at *; first | (simp_all; done) | (rw [all2_ne (by omega)]; simp)
    intro h10; refine gg [2,6,3,1,7,6,3,1,7] ?_; refine bT ?_ ?_
    · intro h16; refine gg [17,2,39,5,16,2,39,5,16,2,39,7,16,0,9,6,2003,2002,40,4,3,2,32,5,1,0,9,5,2003,2002,4,3,2,33] ?_; refine ⟨.inl rfl, _, rfl, .ofB ?_, trivial⟩; simp only [Pa.kind, Pa.nm, Pa.n, Pa.s, Pa.kids] at *; first | (simp_all; done) | (rw [all2_ne (by omega)]; simp)
    intro h16; refine gg [17,2,6,4,1,7,6,4,1,7] ?_; refine bN ?_ ?_
    · intro h23; refine gg [17,2,39,5,16,2,39,7,16,0,9,6,2003,2002,40,4,3,2,32,5,1,0,9,5,2003,2002,4,3,2,33] ?_; refine ⟨.inl rfl, _, rfl, .ofB ?_, trivial⟩; simp only [Pa.kind, Pa.nm, Pa.n, Pa.s, Pa.kids] at *; first | (simp_all; done) | (rw [all2_ne (by omega)]; simp)
    intro h23; refine gg [17,2,6,5,1,7,6,5,1,7] ?_; refine bT ?_ ?_
    · intro h30; refine gg [17,2,39,7,16,0,9,6,2003,2002,40,4,3,2,32,5,1,0,9,5,2003,2002,4,3,2,33] ?_; refine ⟨.inl rfl, _, rfl, .ofB ?_, trivial⟩; simp only [Pa.kind, Pa.nm, Pa.n, Pa.s, Pa.kids] at *; first | (simp_all; done) | (rw [all2_ne (by omega)]; simp)
    intro h30; refine gg [17,2,6,6,1,7,18,6,6,1,7,18] ?_; refine bN ?_ ?_
    · intro h39; refine gg [17,0,9,6,2003,2002,40,4,3,2,32,5,1,0,9,5,2003,2002,4,3,2,33] ?_; refine ⟨.inl rfl, _, rfl, .ofB ?_, trivial⟩; simp only [Pa.kind, Pa.nm, Pa.n, Pa.s, Pa.kids] at *; first | (simp_all; done) | (rw [all2_ne (by omega)]; simp)
    intro h39; refine gg [17,0,9,6,2003,2002,40,4,3,2,8,34,31,5,1,0,9,6,2003,2002,5,4,3,2,35] ?_; refine J_loopF (α := { i : Nat // i ≤ kids.length ∧ all2 Pa.same kids kids' = all2 Pa.same (kids.drop i) (kids'.drop i) }) (fun p => [(5, .c (.lit (.int .i64 (p.1 : Int))))]) [(2, _), (3, _), (4, _), (2002, _), (2003, _)] (fun p => kids.length - p.1) ⟨0, Nat.zero_le _, rfl⟩ ⟨rfl, rfl, rfl, rfl, rfl, rfl, trivial⟩ ?_; rintro ⟨i, hi, hI⟩; dsimp only; refine gg [31,5,2,6,6,1,7,18] ?_; refine bL ?_ ?_
    · intro h45; obtain ⟨x, hx⟩ := get_some (l := kids) (i := i) (by omega); obtain ⟨y, hy⟩ := get_some (l := kids') (i := i) (by omega); have hcx := ih x (List.mem_of_getElem? hx) y; refine gg [0,9,11,2003,2002,45,44,43,42,41,5,4,3,2,32,34,31,35,5,6,6,1,7,2] ?_; refine u rfl rfl (r_indexAddr (e := 40) (sz := 7) rfl rfl (by kernel_rfl) rfl rfl (by omega) (pas_at2 hx)) ?_; refine gg [21,7,6,6,1,7,2] ?_; refine u rfl rfl (r_indexAddr (e := 40) (sz := 7) rfl rfl (by kernel_rfl) rfl rfl (by omega) (pas_at2 hy)) ?_; refine gg [21,7] ?_; refine JR.runC rfl rfl (cl (hcx)) rfl ?_ ?_
      · intro h58; refine gg [15,4,9,23,2003,2002,59,58,57,56,55,54,53,52,51,50,49,48,45,44,43,42,41,5,4,3,2,8,34,37,2,27,1,0] ?_; refine ⟨⟨i + 1, by omega, by rw [hI, drop_get hx, drop_get hy, all2, h58, Bool.true_and]⟩, by simp only; omega, rfl, rfl, rfl, rfl, rfl, rfl, trivial⟩
      intro h58; refine gg [15,4,9,23,2003,2002,59,58,57,56,55,54,53,52,51,50,49,48,45,44,43,42,41,5,4,3,2,32,5,1,0,9,23,2003,2002,59,58,57,56,55,54,53,52,51,50,49,48,45,44,43,42,41,5,4,3,2,33] ?_; refine ⟨.inl rfl, _, rfl, .ofB ?_, trivial⟩; rw [hI, drop_get hx, drop_get hy, all2, h58, Bool.false_and, Bool.and_false]
    intro h45; refine gg [0,9,11,2003,2002,45,44,43,42,41,5,4,3,2,8,36,5,1,0,9,1,4,33] ?_; refine ⟨.inl rfl, _, rfl, .ofB ?_, trivial⟩; rw [hI, List.drop_eq_nil_of_le (by omega), List.drop_eq_nil_of_le (by omega), all2]
    simp_all [Pa.kind, Pa.nm, Pa.n, Pa.s]

theorem paB_nude {n : Nat} {p : Pa} (h : PaB n p) : ∀ p', p'.nude = p.nude → PaB n p' := by
  induction h with
  | @mk k a b nm m s kids hl _ ih =>
    rintro ⟨k', a', b', nm', m', s', kids'⟩ hq; rw [Pa.nude, Pa.nude, pasNude_map, pasNude_map] at hq
    injection hq with _ _ _ _ _ _ h7
    have h8 : kids'.length = kids.length := by have := congrArg List.length h7; simpa using this
    refine .mk (by omega) fun x hx => ?_
    have h9 : x.nude ∈ kids.map Pa.nude := by rw [← h7]; exact List.mem_map.2 ⟨x, hx, rfl⟩
    obtain ⟨y, hy, e⟩ := List.mem_map.1 h9; exact ih y hy x e.symm
def two (p q : Pa) : Ex := .mk 14 0 0 [] [] 0 [] 0 noTy noTy [p, q] [.mk 2 0 0 [] [] 0 [] 0 noTy noTy [] [], .mk 2 0 0 [] [] 0 [] 0 noTy noTy [] [], .mk 5 0 0 [] [] 0 [] 0 noTy noTy [] []]
def twoT (p q : Pa) : List UInt8 := [109, 97, 116, 99, 104, 32, 48, 32, 119, 105, 116, 104, 32] ++ xPat p ++ [32, 45, 62, 32] ++ [48, 32, 124, 32] ++ xPat q ++ [32, 45, 62, 32, 40, 41, 32, 101, 110, 100]
theorem two_text (p q : Pa) : xEx (two p q) = twoT p q := by
  have h0 : mNum 0 = [48] := by decide
  have h1 : xEx (.mk 2 0 0 [] [] 0 [] 0 noTy noTy [] []) = [48] := by rw [xEx]; exact h0
  have h2 : xEx (.mk 5 0 0 [] [] 0 [] 0 noTy noTy [] []) = [40, 41] := by rw [xEx]; rfl
  rw [two, xEx, xExs, xExs, xExs, xExs, h1, h2, twoT]
  simp [armsT]
theorem two_right {p q : Pa} (hp : RPa p) (hq : RPa q) (cp : mCheckPat p = true) (cq : mCheckPat q = true) : REx (two p q) :=
  .matchE 0 0 (.mk 2 0 0 [] [] 0 [] 0 noTy noTy [] []) [(p, .mk 2 0 0 [] [] 0 [] 0 noTy noTy [] []), (q, .mk 5 0 0 [] [] 0 [] 0 noTy noTy [] [])] (by simp) (.int 0 0 0 ⟨by decide, by decide⟩)
    (fun z hz => by simp at hz; rcases hz with rfl | rfl <;> assumption) (fun z hz => by simp at hz; rcases hz with rfl | rfl <;> assumption) (fun z hz => by
      simp at hz
      rcases hz with rfl | rfl
      · exact .int 0 0 0 ⟨by decide, by decide⟩
      exact .unit 0 0)
theorem two_read {p q : Pa} (hp : RPa p) (hq : RPa q) (cp : mCheckPat p = true) (cq : mCheckPat q = true) (hl : (twoT p q).length ≤ 16384) :
    ∃ a b nm ar n s op A B p' q' ks, mParse (twoT p q) = .ok (.mk 14 a b nm ar n s op A B [p', q'] ks) ∧ p'.nude = p.nude ∧ q'.nude = q.nude := by
  obtain ⟨e, h1, h2⟩ := round (two_right hp hq cp cq) (by rw [two_text]; exact hl); rw [two_text] at h1; obtain ⟨k, a, b, nm, ar, n, s, op, A, B, ps, ks⟩ := e; rw [two, Ex.nude, Ex.nude] at h2
  injection h2 with e1 _ _ _ _ _ _ _ _ _ e2 _
  subst e1
  rcases ps with _ | ⟨p', _ | ⟨q', _ | ⟨z, r⟩⟩⟩
  · simp [pasNude] at e2
  · simp [pasNude] at e2
  · simp only [pasNude, List.cons.injEq] at e2; exact ⟨a, b, nm, ar, n, s, op, A, B, p', q', ks, h1, e2.1, e2.2.1⟩
  simp [pasNude] at e2
theorem lPats (p : Pa) (hL : PaL p) (hN : PaN p) (q : Pa) (hL2 : PaL q) (hN2 : PaN q) : Con Tryz.prog 5 [.agg (paX p), .agg (paX q)] [] (.c (.lit (.bool true))) [] := by
  have hH := tHeavyPat hL; have hH2 := tHeavyPat hL2
  by_cases hb : 400 < hPa p 0
  · rw [decide_eq_true hb] at hH; refine gg [38,5,22,2002,22,2003,1,0,9,5,2003,2002,4,3,2,31,5,20,7] ?_; refine gc (hH) [2,3,3,16,2,39,3,16,2,39,3,16,0,9,6,2003,2002,28,4,3,2,32,5,1,0,9,5,2003,2002,4,3,2,33] ?_; exact ⟨.inl rfl, _, rfl, .refl _, trivial⟩
  rw [decide_eq_false hb] at hH
  by_cases hb2 : 400 < hPa q 0
  · rw [decide_eq_true hb2] at hH2; refine gg [38,5,22,2002,22,2003,1,0,9,5,2003,2002,4,3,2,31,5,20,7] ?_; refine gc (hH) [2,20,7] ?_; refine gc (hH2) [17,2,39,3,16,2,39,3,16,0,9,6,2003,2002,28,4,3,2,32,5,1,0,9,5,2003,2002,4,3,2,33] ?_; exact ⟨.inl rfl, _, rfl, .refl _, trivial⟩
  rw [decide_eq_false hb2] at hH2; have hns : ∀ z : Pa, (nms z).length ≤ z.list.length := fun z => by unfold nms; rw [List.length_map]; exact List.length_filter_le _ _
  obtain ⟨hK, hz⟩ := hPa_sz p 0 (by omega) (by omega); obtain ⟨hK2, hz2⟩ := hPa_sz q 0 (by omega) (by omega); have hR := rRightPat (n := 400) (by decide) hK (by have := hns p; omega); have hR2 := rRightPat (n := 400) (by decide) hK2 (by have := hns q; omega)
  by_cases hm : mCheckPat p = true
  · rw [hm] at hR
    by_cases hm2 : mCheckPat q = true
    · rw [hm2] at hR2; have rp := rpa_of hN (runP_own _ _ hm); have rq := rpa_of hN2 (runP_own _ _ hm2); have l1 := len_pat rp; have l2 := len_pat rq; have hT := tPatText (paK_mono hK) hN (fun _ => by omega); have hT2 := tPatText (paK_mono hK2) hN2 (fun _ => by omega); rw [show patOf p = xPat p by rw [patOf, if_pos hm], show patErr p = 0 by rw [patErr, if_pos hm]] at hT; rw [show patOf q = xPat q by rw [patOf, if_pos hm2], show patErr q = 0 by rw [patErr, if_pos hm2]] at hT2; have kB := paB_of (m := 400) (Nat.le_refl _) hK; have kB2 := paB_of (m := 400) (Nat.le_refl _) hK2; have hS := rSamePat (by decide) kB q; have hx := same_pat rp rq hm hm2; have hsl : ([109, 97, 116, 99, 104, 32, 48, 32, 119, 105, 116, 104, 32] ++ xPat p ++ [32, 45, 62, 32] ++ [48, 32, 124, 32] ++ xPat q ++ [32, 45, 62, 32, 40, 41, 32, 101, 110, 100]).length = (twoT p q).length := rfl
      by_cases hs : (twoT p q).length ≤ 16384
      · obtain ⟨a, b, nm, ar, n, s, op, A, B, p', q', ks, hf, e1, e2⟩ := two_read rp rq hm hm2 hs; have hP := eParse (twoT p q) (by omega) hf; have hS1 := rSamePat (by decide) (paB_nude kB p' e1) p; have hS2 := rSamePat (by decide) (paB_nude kB2 q' e2) q; rw [Pa.same_nude _ _ e1.symm] at hS1; rw [Pa.same_nude _ _ e2.symm] at hS2; refine gg [38,5,22,2002,22,2003,1,0,9,5,2003,2002,4,3,2,31,5,20,7] ?_; refine gc (hH) [2,20,7] ?_; refine gc (hH2) [17,2,20,7] ?_; refine gc (hR) [15,17,2,20,7] ?_; refine gc (hR2) [15,17,0,9,6,2003,2002,28,4,3,2,8,34,5,20,7] ?_; refine gc (hT) [2,14,14,1,1,0,9,7,2003,2002,6,5,4,3,2,5,20,7] ?_; refine gc (hT2) [2,14,14,1,1,0,9,9,2003,2002,8,7,6,5,4,3,2,31,5,2] ?_; refine u rfl rfl (r_neI rfl rfl rfl rfl) ?_; refine gg [2,2] ?_; refine u rfl rfl (r_neI rfl rfl rfl rfl) ?_; refine gg [17,2,2,2] ?_; refine bS ?_ ?_
        · intro h48; refine gg [20,7,20,7] ?_; refine uC (hS) ?_; refine u rfl rfl ((r_neB rfl rfl (by kernel_rfl) rfl rfl).cast (cast_b (b' := false) (by rw [← hx, h48]; rfl))) ?_; refine gg [17,0,9,8,2003,2002,53,7,5,4,3,2,8,34,5,2] ?_; refine u rfl rfl (r_catS rfl rfl rfl rfl (by (try simp only [List.length_append, List.length_cons, List.length_nil]); omega)) ?_; refine u rfl rfl (r_catS rfl rfl rfl rfl (by (try simp only [List.length_append, List.length_cons, List.length_nil]); omega)) ?_; refine u rfl rfl (r_catS rfl rfl rfl rfl (by (try simp only [List.length_append, List.length_cons, List.length_nil]); omega)) ?_; refine gg [2] ?_; refine u rfl rfl (r_catS rfl rfl rfl rfl (by (try simp only [List.length_append, List.length_cons, List.length_nil]); omega)) ?_; refine u rfl rfl (r_catS rfl rfl rfl rfl (by (try simp only [List.length_append, List.length_cons, List.length_nil]); omega)) ?_
          refine gg [1,0,9,6,2003,2002,9,4,3,2,31,5,2,30] ?_; refine u rfl rfl ((r_gtI rfl rfl rfl rfl).cast (cast_b (b' := false) (by exact decide_eq_false (by omega)))) ?_; refine gg [0,9,7,2003,2002,63,9,4,3,2,8,34,5,2] ?_; refine u rfl rfl (r_bytesOf rfl rfl (by kernel_rfl) (by kernel_rfl) rfl) ?_; refine gc (hP) [2,14,14,14,23,2010,10,1,1,0,9,8,2010,2003,2002,12,10,4,3,2,5,2,26,2,6,14,1,7,18] ?_; refine u rfl rfl ((r_eqI rfl rfl rfl rfl).cast (cast_b (b' := true) (by exact decide_eq_true rfl))) ?_; refine gg [16,2,6,14,1,7] ?_; refine u rfl rfl (r_indexAddr (e := 40) (sz := 7) rfl rfl (by kernel_rfl) rfl rfl (by decide) (pas_at2 (l := [p', q']) (k := 0) rfl)) ?_; refine gg [21,7,20,7] ?_; refine gc (hS1) [16,2,6,14,1,7] ?_; refine u rfl rfl (r_indexAddr (e := 40) (sz := 7) rfl rfl (by kernel_rfl) rfl rfl (by decide) (pas_at2 (l := [p', q']) (k := 1) rfl)) ?_; refine gg [21,7,20,7] ?_
          refine gc (hS2) [16,2] ?_; refine gc (kWakes7) [16,1,4,9,1,4,33] ?_; exact ⟨.inl rfl, _, rfl, .refl _, trivial⟩
        intro h48; refine gg [20,7,20,7] ?_; refine uC (hS) ?_; refine u rfl rfl ((r_neB rfl rfl (by kernel_rfl) rfl rfl).cast (cast_b (b' := false) (by rw [← hx, h48]; rfl))) ?_; refine gg [17,0,9,8,2003,2002,53,7,5,4,3,2,8,34,5,2] ?_; refine u rfl rfl (r_catS rfl rfl rfl rfl (by (try simp only [List.length_append, List.length_cons, List.length_nil]); omega)) ?_; refine u rfl rfl (r_catS rfl rfl rfl rfl (by (try simp only [List.length_append, List.length_cons, List.length_nil]); omega)) ?_; refine u rfl rfl (r_catS rfl rfl rfl rfl (by (try simp only [List.length_append, List.length_cons, List.length_nil]); omega)) ?_; refine gg [2] ?_; refine u rfl rfl (r_catS rfl rfl rfl rfl (by (try simp only [List.length_append, List.length_cons, List.length_nil]); omega)) ?_; refine u rfl rfl (r_catS rfl rfl rfl rfl (by (try simp only [List.length_append, List.length_cons, List.length_nil]); omega)) ?_
        refine gg [1,0,9,6,2003,2002,9,4,3,2,31,5,2,30] ?_; refine u rfl rfl ((r_gtI rfl rfl rfl rfl).cast (cast_b (b' := false) (by exact decide_eq_false (by omega)))) ?_; refine gg [0,9,7,2003,2002,63,9,4,3,2,8,34,5,2] ?_; refine u rfl rfl (r_bytesOf rfl rfl (by kernel_rfl) (by kernel_rfl) rfl) ?_; refine gc (hP) [2,14,14,14,23,2010,10,1,1,0,9,8,2010,2003,2002,12,10,4,3,2,5,2,26,2,6,14,1,7,18] ?_; refine u rfl rfl ((r_eqI rfl rfl rfl rfl).cast (cast_b (b' := true) (by exact decide_eq_true rfl))) ?_; refine gg [16,2,6,14,1,7] ?_; refine u rfl rfl (r_indexAddr (e := 40) (sz := 7) rfl rfl (by kernel_rfl) rfl rfl (by decide) (pas_at2 (l := [p', q']) (k := 0) rfl)) ?_; refine gg [21,7,20,7] ?_; refine gc (hS1) [16,2,6,14,1,7] ?_; refine u rfl rfl (r_indexAddr (e := 40) (sz := 7) rfl rfl (by kernel_rfl) rfl rfl (by decide) (pas_at2 (l := [p', q']) (k := 1) rfl)) ?_; refine gg [21,7,20,7] ?_
        refine gc (hS2) [16,2] ?_; refine gc (kWakes7) [16,1,4,9,1,4,33] ?_; exact ⟨.inl rfl, _, rfl, .refl _, trivial⟩
      refine gg [38,5,22,2002,22,2003,1,0,9,5,2003,2002,4,3,2,31,5,20,7] ?_; refine gc (hH) [2,20,7] ?_; refine gc (hH2) [17,2,20,7] ?_; refine gc (hR) [15,17,2,20,7] ?_; refine gc (hR2) [15,17,0,9,6,2003,2002,28,4,3,2,8,34,5,20,7] ?_; refine gc (hT) [2,14,14,1,1,0,9,7,2003,2002,6,5,4,3,2,5,20,7] ?_; refine gc (hT2) [2,14,14,1,1,0,9,9,2003,2002,8,7,6,5,4,3,2,31,5,2] ?_; refine u rfl rfl (r_neI rfl rfl rfl rfl) ?_; refine gg [2,2] ?_; refine u rfl rfl (r_neI rfl rfl rfl rfl) ?_; refine gg [17,2,2,2] ?_; refine bS ?_ ?_
      · intro h48; refine gg [20,7,20,7] ?_; refine uC (hS) ?_; refine u rfl rfl ((r_neB rfl rfl (by kernel_rfl) rfl rfl).cast (cast_b (b' := false) (by rw [← hx, h48]; rfl))) ?_; refine gg [17,0,9,8,2003,2002,53,7,5,4,3,2,8,34,5,2] ?_; refine u rfl rfl (r_catS rfl rfl rfl rfl (by (try simp only [List.length_append, List.length_cons, List.length_nil]); omega)) ?_; refine u rfl rfl (r_catS rfl rfl rfl rfl (by (try simp only [List.length_append, List.length_cons, List.length_nil]); omega)) ?_; refine u rfl rfl (r_catS rfl rfl rfl rfl (by (try simp only [List.length_append, List.length_cons, List.length_nil]); omega)) ?_; refine gg [2] ?_; refine u rfl rfl (r_catS rfl rfl rfl rfl (by (try simp only [List.length_append, List.length_cons, List.length_nil]); omega)) ?_; refine u rfl rfl (r_catS rfl rfl rfl rfl (by (try simp only [List.length_append, List.length_cons, List.length_nil]); omega)) ?_
        refine gg [1,0,9,6,2003,2002,9,4,3,2,31,5,2,30] ?_; refine u rfl rfl ((r_gtI rfl rfl rfl rfl).cast (cast_b (b' := true) (by exact decide_eq_true (by omega)))) ?_; refine gg [0,9,7,2003,2002,63,9,4,3,2,32,5] ?_; refine gc (kWakes7) [1,0,9,6,2003,2002,9,4,3,2,33] ?_; exact ⟨.inl rfl, _, rfl, .refl _, trivial⟩
      intro h48; refine gg [20,7,20,7] ?_; refine uC (hS) ?_; refine u rfl rfl ((r_neB rfl rfl (by kernel_rfl) rfl rfl).cast (cast_b (b' := false) (by rw [← hx, h48]; rfl))) ?_; refine gg [17,0,9,8,2003,2002,53,7,5,4,3,2,8,34,5,2] ?_; refine u rfl rfl (r_catS rfl rfl rfl rfl (by (try simp only [List.length_append, List.length_cons, List.length_nil]); omega)) ?_; refine u rfl rfl (r_catS rfl rfl rfl rfl (by (try simp only [List.length_append, List.length_cons, List.length_nil]); omega)) ?_; refine u rfl rfl (r_catS rfl rfl rfl rfl (by (try simp only [List.length_append, List.length_cons, List.length_nil]); omega)) ?_; refine gg [2] ?_; refine u rfl rfl (r_catS rfl rfl rfl rfl (by (try simp only [List.length_append, List.length_cons, List.length_nil]); omega)) ?_; refine u rfl rfl (r_catS rfl rfl rfl rfl (by (try simp only [List.length_append, List.length_cons, List.length_nil]); omega)) ?_
      refine gg [1,0,9,6,2003,2002,9,4,3,2,31,5,2,30] ?_; refine u rfl rfl ((r_gtI rfl rfl rfl rfl).cast (cast_b (b' := true) (by exact decide_eq_true (by omega)))) ?_; refine gg [0,9,7,2003,2002,63,9,4,3,2,32,5] ?_; refine gc (kWakes7) [1,0,9,6,2003,2002,9,4,3,2,33] ?_; exact ⟨.inl rfl, _, rfl, .refl _, trivial⟩
    rw [Bool.not_eq_true] at hm2; rw [hm2] at hR2; refine gg [38,5,22,2002,22,2003,1,0,9,5,2003,2002,4,3,2,31,5,20,7] ?_; refine gc (hH) [2,20,7] ?_; refine gc (hH2) [17,2,20,7] ?_; refine gc (hR) [15,17,2,20,7] ?_; refine gc (hR2) [15,17,0,9,6,2003,2002,28,4,3,2,32,5,1,0,9,5,2003,2002,4,3,2,33] ?_; exact ⟨.inl rfl, _, rfl, .refl _, trivial⟩
  rw [Bool.not_eq_true] at hm; rw [hm] at hR; refine gg [38,5,22,2002,22,2003,1,0,9,5,2003,2002,4,3,2,31,5,20,7] ?_; refine gc (hH) [2,20,7] ?_; refine gc (hH2) [17,2,20,7] ?_; refine gc (hR) [15,17,2,39,3,16,0,9,6,2003,2002,28,4,3,2,32,5,1,0,9,5,2003,2002,4,3,2,33] ?_; exact ⟨.inl rfl, _, rfl, .refl _, trivial⟩

end Go.Proofs.YtlagglkpbnbmeaaGreatDoor
