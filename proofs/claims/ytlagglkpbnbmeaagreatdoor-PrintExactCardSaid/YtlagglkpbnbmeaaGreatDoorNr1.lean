/- The program's reader of types: takes, atom. -/
import Derived.Test.YtlagglkpbnbmeaaGreatDoorShC
import Derived.Test.YtlagglkpbnbmeaaGreatDoorTX
import Derived.Test.YtlagglkpbnbmeaaGreatDoorShZ
namespace Go.Proofs.YtlagglkpbnbmeaaGreatDoor
open Go Go.RowKit
set_option maxRecDepth 100000
set_option linter.unusedVariables false

def nRdr (ts : List Tok) (i : Nat) : F := .var 156 [.d (toksD ts), .d (.lit (.int .i64 (i : Int)))]

theorem nTakesT (ts : List Tok) (i k : Nat) (s : List UInt8) (hm : ts.length ≤ 1000000000) (h : hit k s (ts.drop i) = true) : Con Tryz.prog 163 [.ptr 3000 0, .c (.lit (.int .i64 (k : Int))), .c (.lit (str s))] [(3000, nRdr ts i)] (.c (.lit (.bool true))) [(3000, nRdr ts (i + 1))] := by
  refine gg [38] ?_; have h1 := hit_lt' h; obtain ⟨x, hx⟩ : ∃ x, ts[i]? = some x := ⟨ts[i], List.getElem?_eq_getElem h1⟩; have hlt : (i : Int) < (((ts.map tokD).length : Nat) : Int) := by simp; omega
  rw [hit_at hx, Bool.and_eq_true, beq_iff_eq, beq_iff_eq] at h; obtain ⟨h2, h3⟩ := h; refine gg [5,1,0,9,5,3000,6,2,1,0,31,5,2,13,6,1,1,7,2,13,6,0,1,7,18] ?_; refine u rfl rfl ((r_ltI rfl rfl rfl rfl).cast (by rw [decide_eq_true hlt])) ?_; refine gg [2,2,13,6,0,1,7,2,13,6,1,1,7] ?_; refine u rfl rfl (r_indexAddr (e := 76) (sz := 5) rfl rfl (by kernel_rfl) rfl rfl (by omega) (toksD_get hx)) ?_; refine gg [19,0,1,12,2] ?_; refine u rfl rfl ((r_eqI rfl rfl rfl rfl).cast (by rw [decide_eq_true (by rw [h2])])) ?_; refine gg [16,2,2,13,6,0,1,7,2,13,6,1,1,7] ?_; refine u rfl rfl (r_indexAddr (e := 76) (sz := 5) rfl rfl (by kernel_rfl) rfl rfl (by omega) (toksD_get hx)) ?_; refine gg [19,3,1,12,2] ?_; refine u rfl rfl ((r_eqS rfl rfl rfl rfl).cast (by rw [h3, beq_self_eq_true])) ?_; refine gg [16,4,9,4,3000,46,6,0,32,5,2,13,6,1,1,7,27,13,6,1,1,11,0,9,2,3000,6,5,1,0,9,2,3000,6,33] ?_
  exact ⟨.inl rfl, _, rfl, .refl _, rfl, trivial⟩
theorem nTakesF (ts : List Tok) (i k : Nat) (s : List UInt8) (hm : ts.length ≤ 1000000000) (h : hit k s (ts.drop i) = false) : Con Tryz.prog 163 [.ptr 3000 0, .c (.lit (.int .i64 (k : Int))), .c (.lit (str s))] [(3000, nRdr ts i)] (.c (.lit (.bool false))) [(3000, nRdr ts i)] := by
  refine gg [38] ?_
  by_cases h1 : i < ts.length
  · obtain ⟨x, hx⟩ : ∃ x, ts[i]? = some x := ⟨ts[i], List.getElem?_eq_getElem h1⟩; have hlt : (i : Int) < (((ts.map tokD).length : Nat) : Int) := by simp; omega
    rw [hit_at hx] at h
    by_cases h2 : x.k = k
    · rw [beq_iff_eq.2 h2, Bool.true_and] at h; refine gg [5,1,0,9,5,3000,6,2,1,0,31,5,2,13,6,1,1,7,2,13,6,0,1,7,18] ?_; refine u rfl rfl ((r_ltI rfl rfl rfl rfl).cast (by rw [decide_eq_true hlt])) ?_; refine gg [2,2,13,6,0,1,7,2,13,6,1,1,7] ?_; refine u rfl rfl (r_indexAddr (e := 76) (sz := 5) rfl rfl (by kernel_rfl) rfl rfl (by omega) (toksD_get hx)) ?_; refine gg [19,0,1,12,2] ?_; refine u rfl rfl ((r_eqI rfl rfl rfl rfl).cast (by rw [decide_eq_true (by rw [h2])])) ?_; refine gg [16,2,2,13,6,0,1,7,2,13,6,1,1,7] ?_; refine u rfl rfl (r_indexAddr (e := 76) (sz := 5) rfl rfl (by kernel_rfl) rfl rfl (by omega) (toksD_get hx)) ?_; refine gg [19,3,1,12,2] ?_; refine u rfl rfl ((r_eqS rfl rfl rfl rfl).cast (by rw [h])) ?_; refine gg [16,4,9,4,3000,46,6,0,8,34,5,1,0,9,2,3000,6,33] ?_; exact ⟨.inl rfl, _, rfl, .refl _, rfl, trivial⟩
    clear h; refine gg [5,1,0,9,5,3000,6,2,1,0,31,5,2,13,6,1,1,7,2,13,6,0,1,7,18] ?_; refine u rfl rfl ((r_ltI rfl rfl rfl rfl).cast (by rw [decide_eq_true hlt])) ?_; refine gg [2,2,13,6,0,1,7,2,13,6,1,1,7] ?_; refine u rfl rfl (r_indexAddr (e := 76) (sz := 5) rfl rfl (by kernel_rfl) rfl rfl (by omega) (toksD_get hx)) ?_; refine gg [19,0,1,12,2] ?_; refine u rfl rfl ((r_eqI rfl rfl rfl rfl).cast (by rw [decide_eq_false (by omega)])) ?_; refine gg [16,2,39,13,17,4,9,4,3000,46,6,0,8,34,5,1,0,9,2,3000,6,33] ?_; exact ⟨.inl rfl, _, rfl, .refl _, rfl, trivial⟩
  have hlt : ¬ (i : Int) < (((ts.map tokD).length : Nat) : Int) := by simp; omega
  refine gg [5,1,0,9,5,3000,6,2,1,0,31,5,2,13,6,1,1,7,2,13,6,0,1,7,18] ?_; refine u rfl rfl ((r_ltI rfl rfl rfl rfl).cast (by rw [decide_eq_false hlt])) ?_; refine gg [2,39,13,17,2,39,13,17,4,9,4,3000,46,6,0,8,34,5,1,0,9,2,3000,6,33] ?_; exact ⟨.inl rfl, _, rfl, .refl _, rfl, trivial⟩

def NrOK (f : FuncId) (m : List Tok → PR Ty) (ts : List Tok) (i : Nat) : Prop :=
  Con Tryz.prog f [.ptr 3000 0] [(3000, nRdr ts i)] (retD 3 tyD (m (ts.drop i))) [(3000, nRdr ts (posE ts.length (m (ts.drop i))))]
def NrTyp (f : Nat) : Prop := ∀ (ts : List Tok) (i : Nat), ts.length ≤ 1000000000 → i ≤ ts.length → ts.length - i < f → NrOK 158 (mTypF f) ts i

theorem nAtom_1 (f : Nat) (ts : List Tok) (i : Nat) (hm : ts.length ≤ 1000000000) (h1 : hit 2 tkInt (ts.drop i) = true) : NrOK 169 (mAtom (mTypF f)) ts i := by
  have hM : mAtom (mTypF f) (ts.drop i) = .ok (.leaf 1, ts.drop (i + 1)) := by
    rw [mAtom, if_pos h1, hit_tail h1]
  have hlt := hit_lt h1; unfold NrOK; rw [hM]; refine gg [38,5,25,2002,1,0,9,5,3000,2002,3,2,0,31,35,5,2] ?_; refine u rfl rfl (r_call (nTakesT ts i 2 tkInt hm h1) rfl rfl rfl ⟨rfl, trivial⟩ (by kernel_rfl)) ?_; refine gg [1,0,9,6,3000,2002,6,3,2,0,32,5] ?_; refine u rfl rfl (r_build (zs := zt) (qs := [(0, 1), (1, 1), (2, 1)]) dt rfl rfl (by kernel_rfl) (by kernel_rfl) kt rfl rfl) ?_; refine gg [10,1,0,9,5,3000,2002,3,2,0,33] ?_; refine ⟨.inl rfl, _, rfl, .refl _, ?_, trivial⟩
  show some (nRdr ts (i + 1)) = some (nRdr ts (ts.length - (ts.drop (i + 1)).length))
  rw [pos_drop (by omega)]

theorem nAtom_2 (f : Nat) (ts : List Tok) (i : Nat) (hm : ts.length ≤ 1000000000) (h1 : hit 2 tkInt (ts.drop i) = false) (h2 : hit 2 tkBool (ts.drop i) = true) : NrOK 169 (mAtom (mTypF f)) ts i := by
  have hM : mAtom (mTypF f) (ts.drop i) = .ok (.leaf 2, ts.drop (i + 1)) := by
    rw [mAtom, if_neg (by rw [h1]; decide), if_pos h2, hit_tail h2]
  have hlt := hit_lt h2; unfold NrOK; rw [hM]; refine gg [38,5,25,2002,1,0,9,5,3000,2002,3,2,0,31,35,5,2] ?_; refine u rfl rfl (r_call (nTakesF ts i 2 tkInt hm h1) rfl rfl rfl ⟨rfl, trivial⟩ (by kernel_rfl)) ?_; refine gg [1,0,9,6,3000,2002,6,3,2,0,8,5,2] ?_; refine u rfl rfl (r_call (nTakesT ts i 2 tkBool hm h2) rfl rfl rfl ⟨rfl, trivial⟩ (by kernel_rfl)) ?_; refine gg [1,0,9,6,3000,2002,10,3,2,0,32,5] ?_; refine u rfl rfl (r_build (zs := zt) (qs := [(0, 1), (1, 1), (2, 1)]) dt rfl rfl (by kernel_rfl) (by kernel_rfl) kt rfl rfl) ?_; refine gg [10,1,0,9,5,3000,2002,3,2,0,33] ?_; refine ⟨.inl rfl, _, rfl, .refl _, ?_, trivial⟩
  show some (nRdr ts (i + 1)) = some (nRdr ts (ts.length - (ts.drop (i + 1)).length))
  rw [pos_drop (by omega)]

theorem nAtom_3 (f : Nat) (ts : List Tok) (i : Nat) (hm : ts.length ≤ 1000000000) (h1 : hit 2 tkInt (ts.drop i) = false) (h2 : hit 2 tkBool (ts.drop i) = false) (h3 : hit 2 tkString (ts.drop i) = true) : NrOK 169 (mAtom (mTypF f)) ts i := by
  have hM : mAtom (mTypF f) (ts.drop i) = .ok (.leaf 3, ts.drop (i + 1)) := by
    rw [mAtom, if_neg (by rw [h1]; decide), if_neg (by rw [h2]; decide), if_pos h3, hit_tail h3]
  have hlt := hit_lt h3; unfold NrOK; rw [hM]; refine gg [38,5,25,2002,1,0,9,5,3000,2002,3,2,0,31,35,5,2] ?_; refine u rfl rfl (r_call (nTakesF ts i 2 tkInt hm h1) rfl rfl rfl ⟨rfl, trivial⟩ (by kernel_rfl)) ?_; refine gg [1,0,9,6,3000,2002,6,3,2,0,8,5,2] ?_; refine u rfl rfl (r_call (nTakesF ts i 2 tkBool hm h2) rfl rfl rfl ⟨rfl, trivial⟩ (by kernel_rfl)) ?_; refine gg [1,0,9,6,3000,2002,10,3,2,0,8,5,2] ?_; refine u rfl rfl (r_call (nTakesT ts i 2 tkString hm h3) rfl rfl rfl ⟨rfl, trivial⟩ (by kernel_rfl)) ?_; refine gg [1,0,9,6,3000,2002,14,3,2,0,32,5] ?_; refine u rfl rfl (r_build (zs := zt) (qs := [(0, 1), (1, 1), (2, 1)]) dt rfl rfl (by kernel_rfl) (by kernel_rfl) kt rfl rfl) ?_; refine gg [10,1,0,9,5,3000,2002,3,2,0,33] ?_; refine ⟨.inl rfl, _, rfl, .refl _, ?_, trivial⟩
  show some (nRdr ts (i + 1)) = some (nRdr ts (ts.length - (ts.drop (i + 1)).length))
  rw [pos_drop (by omega)]

theorem nAtom_4 (f : Nat) (ts : List Tok) (i : Nat) (hm : ts.length ≤ 1000000000) (h1 : hit 2 tkInt (ts.drop i) = false) (h2 : hit 2 tkBool (ts.drop i) = false) (h3 : hit 2 tkString (ts.drop i) = false) (h4 : hit 2 tkUnit (ts.drop i) = true) : NrOK 169 (mAtom (mTypF f)) ts i := by
  have hM : mAtom (mTypF f) (ts.drop i) = .ok (.leaf 4, ts.drop (i + 1)) := by
    rw [mAtom, if_neg (by rw [h1]; decide), if_neg (by rw [h2]; decide), if_neg (by rw [h3]; decide), if_pos h4, hit_tail h4]
  have hlt := hit_lt h4; unfold NrOK; rw [hM]; refine gg [38,5,25,2002,1,0,9,5,3000,2002,3,2,0,31,35,5,2] ?_; refine u rfl rfl (r_call (nTakesF ts i 2 tkInt hm h1) rfl rfl rfl ⟨rfl, trivial⟩ (by kernel_rfl)) ?_; refine gg [1,0,9,6,3000,2002,6,3,2,0,8,5,2] ?_; refine u rfl rfl (r_call (nTakesF ts i 2 tkBool hm h2) rfl rfl rfl ⟨rfl, trivial⟩ (by kernel_rfl)) ?_; refine gg [1,0,9,6,3000,2002,10,3,2,0,8,5,2] ?_; refine u rfl rfl (r_call (nTakesF ts i 2 tkString hm h3) rfl rfl rfl ⟨rfl, trivial⟩ (by kernel_rfl)) ?_; refine gg [1,0,9,6,3000,2002,14,3,2,0,8,5,2] ?_; refine u rfl rfl (r_call (nTakesT ts i 2 tkUnit hm h4) rfl rfl rfl ⟨rfl, trivial⟩ (by kernel_rfl)) ?_; refine gg [1,0,9,6,3000,2002,18,3,2,0,32,5] ?_; refine u rfl rfl (r_build (zs := zt) (qs := [(0, 1), (1, 1), (2, 1)]) dt rfl rfl (by kernel_rfl) (by kernel_rfl) kt rfl rfl) ?_; refine gg [10,1,0,9,5,3000,2002,3,2,0,33] ?_; refine ⟨.inl rfl, _, rfl, .refl _, ?_, trivial⟩
  show some (nRdr ts (i + 1)) = some (nRdr ts (ts.length - (ts.drop (i + 1)).length))
  rw [pos_drop (by omega)]

theorem nAtom_5 (f : Nat) (ts : List Tok) (i : Nat) (hm : ts.length ≤ 1000000000) (h1 : hit 2 tkInt (ts.drop i) = false) (h2 : hit 2 tkBool (ts.drop i) = false) (h3 : hit 2 tkString (ts.drop i) = false) (h4 : hit 2 tkUnit (ts.drop i) = false) (h5 : hit 5 [63] (ts.drop i) = true) : NrOK 169 (mAtom (mTypF f)) ts i := by
  have hM : mAtom (mTypF f) (ts.drop i) = .ok (.leaf 5, ts.drop (i + 1)) := by
    rw [mAtom, if_neg (by rw [h1]; decide), if_neg (by rw [h2]; decide), if_neg (by rw [h3]; decide), if_neg (by rw [h4]; decide), if_pos h5, hit_tail h5]
  have hlt := hit_lt h5; unfold NrOK; rw [hM]; refine gg [38,5,25,2002,1,0,9,5,3000,2002,3,2,0,31,35,5,2] ?_; refine u rfl rfl (r_call (nTakesF ts i 2 tkInt hm h1) rfl rfl rfl ⟨rfl, trivial⟩ (by kernel_rfl)) ?_; refine gg [1,0,9,6,3000,2002,6,3,2,0,8,5,2] ?_; refine u rfl rfl (r_call (nTakesF ts i 2 tkBool hm h2) rfl rfl rfl ⟨rfl, trivial⟩ (by kernel_rfl)) ?_; refine gg [1,0,9,6,3000,2002,10,3,2,0,8,5,2] ?_; refine u rfl rfl (r_call (nTakesF ts i 2 tkString hm h3) rfl rfl rfl ⟨rfl, trivial⟩ (by kernel_rfl)) ?_; refine gg [1,0,9,6,3000,2002,14,3,2,0,8,5,2] ?_; refine u rfl rfl (r_call (nTakesF ts i 2 tkUnit hm h4) rfl rfl rfl ⟨rfl, trivial⟩ (by kernel_rfl)) ?_; refine gg [1,0,9,6,3000,2002,18,3,2,0,8,5,2] ?_; refine u rfl rfl (r_call (nTakesT ts i 5 [63] hm h5) rfl rfl rfl ⟨rfl, trivial⟩ (by kernel_rfl)) ?_; refine gg [1,0,9,6,3000,2002,22,3,2,0,32,5] ?_; refine u rfl rfl (r_build (zs := zt) (qs := [(0, 1), (1, 1), (2, 1)]) dt rfl rfl (by kernel_rfl) (by kernel_rfl) kt rfl rfl) ?_
  refine gg [10,1,0,9,5,3000,2002,3,2,0,33] ?_; refine ⟨.inl rfl, _, rfl, .refl _, ?_, trivial⟩
  show some (nRdr ts (i + 1)) = some (nRdr ts (ts.length - (ts.drop (i + 1)).length))
  rw [pos_drop (by omega)]

theorem nAtom_7 (f : Nat) (ts : List Tok) (i : Nat) (hm : ts.length ≤ 1000000000) (hi : i ≤ ts.length) (h1 : hit 2 tkInt (ts.drop i) = false) (h2 : hit 2 tkBool (ts.drop i) = false) (h3 : hit 2 tkString (ts.drop i) = false) (h4 : hit 2 tkUnit (ts.drop i) = false) (h5 : hit 5 [63] (ts.drop i) = false) (h6 : hit 5 [40] (ts.drop i) = false) : NrOK 169 (mAtom (mTypF f)) ts i := by
  have hM : mAtom (mTypF f) (ts.drop i) = .error (ts.drop i).length := by
    rw [mAtom, if_neg (by rw [h1]; decide), if_neg (by rw [h2]; decide), if_neg (by rw [h3]; decide), if_neg (by rw [h4]; decide), if_neg (by rw [h5]; decide), if_neg (by rw [h6]; decide)]
  unfold NrOK; rw [hM]; refine gg [38,5,25,2002,1,0,9,5,3000,2002,3,2,0,31,35,5,2] ?_; refine u rfl rfl (r_call (nTakesF ts i 2 tkInt hm h1) rfl rfl rfl ⟨rfl, trivial⟩ (by kernel_rfl)) ?_; refine gg [1,0,9,6,3000,2002,6,3,2,0,8,5,2] ?_; refine u rfl rfl (r_call (nTakesF ts i 2 tkBool hm h2) rfl rfl rfl ⟨rfl, trivial⟩ (by kernel_rfl)) ?_; refine gg [1,0,9,6,3000,2002,10,3,2,0,8,5,2] ?_; refine u rfl rfl (r_call (nTakesF ts i 2 tkString hm h3) rfl rfl rfl ⟨rfl, trivial⟩ (by kernel_rfl)) ?_; refine gg [1,0,9,6,3000,2002,14,3,2,0,8,5,2] ?_; refine u rfl rfl (r_call (nTakesF ts i 2 tkUnit hm h4) rfl rfl rfl ⟨rfl, trivial⟩ (by kernel_rfl)) ?_; refine gg [1,0,9,6,3000,2002,18,3,2,0,8,5,2] ?_; refine u rfl rfl (r_call (nTakesF ts i 5 [63] hm h5) rfl rfl rfl ⟨rfl, trivial⟩ (by kernel_rfl)) ?_; refine gg [1,0,9,6,3000,2002,22,3,2,0,8,5,2] ?_; refine u rfl rfl (r_call (nTakesF ts i 5 [40] hm h6) rfl rfl rfl ⟨rfl, trivial⟩ (by kernel_rfl)) ?_
  refine gg [15,1,0,9,6,3000,2002,26,3,2,0,32,5] ?_; refine u rfl rfl (r_build (zs := zt) (qs := [(0, 1), (1, 1), (2, 1)]) dt rfl rfl (by kernel_rfl) (by kernel_rfl) kt rfl rfl) ?_; refine gg [10,1,0,9,5,3000,2002,3,2,0,33] ?_; refine ⟨.inl rfl, _, rfl, .tup ⟨.agg ⟨.any _, .any _, .any _, trivial⟩, .refl _, trivial⟩, ?_, trivial⟩
  show some (nRdr ts i) = some (nRdr ts (ts.length - (ts.drop i).length))
  rw [pos_drop hi]

theorem nAtom_6 (f : Nat) (hT : NrTyp f) (ts : List Tok) (i : Nat) (hm : ts.length ≤ 1000000000) (hi : i ≤ ts.length) (hf : ts.length - i < f + 1) (h1 : hit 2 tkInt (ts.drop i) = false) (h2 : hit 2 tkBool (ts.drop i) = false) (h3 : hit 2 tkString (ts.drop i) = false) (h4 : hit 2 tkUnit (ts.drop i) = false) (h5 : hit 5 [63] (ts.drop i) = false) (h6 : hit 5 [40] (ts.drop i) = true) : NrOK 169 (mAtom (mTypF f)) ts i := by
  have hM : mAtom (mTypF f) (ts.drop i) = (match mTypF f (ts.drop (i + 1)) with
    | .error e => .error e
    | .ok (t, r) => if hit 5 [41] r then .ok (t, r.tail) else .error r.length) := by
    rw [mAtom, if_neg (by rw [h1]; decide), if_neg (by rw [h2]; decide), if_neg (by rw [h3]; decide), if_neg (by rw [h4]; decide), if_neg (by rw [h5]; decide), if_pos h6, hit_tail h6]
    rcases mTypF f (ts.drop (i + 1)) with e | ⟨t, r⟩ <;> rfl
  have hlt := hit_lt h6; have hc := hT ts (i + 1) hm (by omega) (by omega); have hok := mTypF_ok f (ts.drop (i + 1)); unfold NrOK at hc ⊢
  cases hx : mTypF f (ts.drop (i + 1)) with
  | error k =>
    rw [hx] at hc hM; rw [hM]; refine gg [38,5,25,2002,1,0,9,5,3000,2002,3,2,0,31,35,5,2] ?_; refine u rfl rfl (r_call (nTakesF ts i 2 tkInt hm h1) rfl rfl rfl ⟨rfl, trivial⟩ (by kernel_rfl)) ?_; refine gg [1,0,9,6,3000,2002,6,3,2,0,8,5,2] ?_; refine u rfl rfl (r_call (nTakesF ts i 2 tkBool hm h2) rfl rfl rfl ⟨rfl, trivial⟩ (by kernel_rfl)) ?_; refine gg [1,0,9,6,3000,2002,10,3,2,0,8,5,2] ?_; refine u rfl rfl (r_call (nTakesF ts i 2 tkString hm h3) rfl rfl rfl ⟨rfl, trivial⟩ (by kernel_rfl)) ?_; refine gg [1,0,9,6,3000,2002,14,3,2,0,8,5,2] ?_; refine u rfl rfl (r_call (nTakesF ts i 2 tkUnit hm h4) rfl rfl rfl ⟨rfl, trivial⟩ (by kernel_rfl)) ?_; refine gg [1,0,9,6,3000,2002,18,3,2,0,8,5,2] ?_; refine u rfl rfl (r_call (nTakesF ts i 5 [63] hm h5) rfl rfl rfl ⟨rfl, trivial⟩ (by kernel_rfl)) ?_; refine gg [1,0,9,6,3000,2002,22,3,2,0,8,5,2] ?_; refine u rfl rfl (r_call (nTakesT ts i 5 [40] hm h6) rfl rfl rfl ⟨rfl, trivial⟩ (by kernel_rfl)) ?_
    refine gg [15,1,0,9,6,3000,2002,26,3,2,0,8,34,5,2] ?_; refine u rfl rfl (r_call (hc) rfl rfl rfl ⟨rfl, trivial⟩ (by kernel_rfl)) ?_; refine gg [2,14,14,25,2004,10,1,0,9,8,3000,2004,2002,5,4,3,2,0,5,20,3,2,2,3,3,17,10,1,4,9,4,3000,2002,3,2,33] ?_; exact ⟨.inl rfl, _, rfl, .refl _, rfl, trivial⟩
  | ok p =>
    obtain ⟨t, r⟩ := p; obtain ⟨j, hj1, hj2, rfl⟩ := ok_drop hok hx (by omega); rw [hx] at hc hM; rw [hM]; simp only [retD, posE, pos_drop hj2, tyD_eq] at hc ⊢
    cases h7 : hit 5 [41] (ts.drop j) with
    | true =>
      have hlj := hit_lt h7; simp only [if_true, hit_tail h7, pos_drop (show j + 1 ≤ ts.length by omega)]; refine gg [38,5,25,2002,1,0,9,5,3000,2002,3,2,0,31,35,5,2] ?_; refine u rfl rfl (r_call (nTakesF ts i 2 tkInt hm h1) rfl rfl rfl ⟨rfl, trivial⟩ (by kernel_rfl)) ?_; refine gg [1,0,9,6,3000,2002,6,3,2,0,8,5,2] ?_; refine u rfl rfl (r_call (nTakesF ts i 2 tkBool hm h2) rfl rfl rfl ⟨rfl, trivial⟩ (by kernel_rfl)) ?_; refine gg [1,0,9,6,3000,2002,10,3,2,0,8,5,2] ?_; refine u rfl rfl (r_call (nTakesF ts i 2 tkString hm h3) rfl rfl rfl ⟨rfl, trivial⟩ (by kernel_rfl)) ?_; refine gg [1,0,9,6,3000,2002,14,3,2,0,8,5,2] ?_; refine u rfl rfl (r_call (nTakesF ts i 2 tkUnit hm h4) rfl rfl rfl ⟨rfl, trivial⟩ (by kernel_rfl)) ?_; refine gg [1,0,9,6,3000,2002,18,3,2,0,8,5,2] ?_; refine u rfl rfl (r_call (nTakesF ts i 5 [63] hm h5) rfl rfl rfl ⟨rfl, trivial⟩ (by kernel_rfl)) ?_; refine gg [1,0,9,6,3000,2002,22,3,2,0,8,5,2] ?_
      refine u rfl rfl (r_call (nTakesT ts i 5 [40] hm h6) rfl rfl rfl ⟨rfl, trivial⟩ (by kernel_rfl)) ?_; refine gg [15,1,0,9,6,3000,2002,26,3,2,0,8,34,5,2] ?_; refine u rfl rfl (r_call (hc) rfl rfl rfl ⟨rfl, trivial⟩ (by kernel_rfl)) ?_; refine gg [2,14,14,25,2004,10,1,0,9,8,3000,2004,2002,5,4,3,2,0,5,20,3,2,2,2] ?_; refine u rfl rfl (r_call (nTakesT ts j 5 [41] hm h7) rfl rfl rfl ⟨rfl, trivial⟩ (by kernel_rfl)) ?_; refine gg [16,10,1,4,9,4,3000,2002,3,2,33] ?_; exact ⟨.inl rfl, _, rfl, .refl _, rfl, trivial⟩
    | false =>
      simp only [Bool.false_eq_true, if_false, pos_drop hj2]; refine gg [38,5,25,2002,1,0,9,5,3000,2002,3,2,0,31,35,5,2] ?_; refine u rfl rfl (r_call (nTakesF ts i 2 tkInt hm h1) rfl rfl rfl ⟨rfl, trivial⟩ (by kernel_rfl)) ?_; refine gg [1,0,9,6,3000,2002,6,3,2,0,8,5,2] ?_; refine u rfl rfl (r_call (nTakesF ts i 2 tkBool hm h2) rfl rfl rfl ⟨rfl, trivial⟩ (by kernel_rfl)) ?_; refine gg [1,0,9,6,3000,2002,10,3,2,0,8,5,2] ?_; refine u rfl rfl (r_call (nTakesF ts i 2 tkString hm h3) rfl rfl rfl ⟨rfl, trivial⟩ (by kernel_rfl)) ?_; refine gg [1,0,9,6,3000,2002,14,3,2,0,8,5,2] ?_; refine u rfl rfl (r_call (nTakesF ts i 2 tkUnit hm h4) rfl rfl rfl ⟨rfl, trivial⟩ (by kernel_rfl)) ?_; refine gg [1,0,9,6,3000,2002,18,3,2,0,8,5,2] ?_; refine u rfl rfl (r_call (nTakesF ts i 5 [63] hm h5) rfl rfl rfl ⟨rfl, trivial⟩ (by kernel_rfl)) ?_; refine gg [1,0,9,6,3000,2002,22,3,2,0,8,5,2] ?_; refine u rfl rfl (r_call (nTakesT ts i 5 [40] hm h6) rfl rfl rfl ⟨rfl, trivial⟩ (by kernel_rfl)) ?_
      refine gg [15,1,0,9,6,3000,2002,26,3,2,0,8,34,5,2] ?_; refine u rfl rfl (r_call (hc) rfl rfl rfl ⟨rfl, trivial⟩ (by kernel_rfl)) ?_; refine gg [2,14,14,25,2004,10,1,0,9,8,3000,2004,2002,5,4,3,2,0,5,20,3,2,2,2] ?_; refine u rfl rfl (r_call (nTakesF ts j 5 [41] hm h7) rfl rfl rfl ⟨rfl, trivial⟩ (by kernel_rfl)) ?_; refine gg [16,10,1,4,9,4,3000,2002,3,2,33] ?_; exact ⟨.inl rfl, _, rfl, .tup ⟨.agg ⟨.any _, .any _, .any _, trivial⟩, .refl _, trivial⟩, rfl, trivial⟩

theorem nAtom_any (f : Nat) (hT : NrTyp f) (ts : List Tok) (i : Nat) (hm : ts.length ≤ 1000000000) (hi : i ≤ ts.length) (hf : ts.length - i < f + 1) : NrOK 169 (mAtom (mTypF f)) ts i := by
  cases h1 : hit 2 tkInt (ts.drop i)
  · cases h2 : hit 2 tkBool (ts.drop i)
    · cases h3 : hit 2 tkString (ts.drop i)
      · cases h4 : hit 2 tkUnit (ts.drop i)
        · cases h5 : hit 5 [63] (ts.drop i)
          · cases h6 : hit 5 [40] (ts.drop i)
            · exact nAtom_7 f ts i hm hi h1 h2 h3 h4 h5 h6
            exact nAtom_6 f hT ts i hm hi hf h1 h2 h3 h4 h5 h6
          exact nAtom_5 f ts i hm h1 h2 h3 h4 h5
        exact nAtom_4 f ts i hm h1 h2 h3 h4
      exact nAtom_3 f ts i hm h1 h2 h3
    exact nAtom_2 f ts i hm h1 h2
  exact nAtom_1 f ts i hm h1

end Go.Proofs.YtlagglkpbnbmeaaGreatDoor
