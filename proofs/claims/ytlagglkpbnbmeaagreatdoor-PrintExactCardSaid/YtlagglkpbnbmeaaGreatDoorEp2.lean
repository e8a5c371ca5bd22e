/- The program's reader of expressions: the small methods. -/
import Derived.Test.YtlagglkpbnbmeaaGreatDoorShC
import Derived.Test.YtlagglkpbnbmeaaGreatDoorEp1
import Derived.Test.YtlagglkpbnbmeaaGreatDoorEk
import Derived.Test.YtlagglkpbnbmeaaGreatDoorNr2
namespace Go.Proofs.YtlagglkpbnbmeaaGreatDoor
open Go Go.RowKit
set_option maxRecDepth 100000
set_option linter.unusedVariables false
set_option linter.unusedSimpArgs false

def tyX (t : Ty) : List D := [.lit (.int .i64 t.kind), .lit (.int .i64 t.num), .sl 3 (tysD t.kids)]
theorem tyX_eq (t : Ty) : tyD t = tyX t := tyD_eq t
def posQ {α : Type} : QR α → Nat
  | .error e => e.1
  | .ok (_, j) => j
def retQ {α : Type} (yes : α → List E) (no : List E) : QR α → F
  | .error _ => .tup (no ++ [.c (.lit (.bool false))])
  | .ok (a, _) => .tup (yes a ++ [.c (.lit (.bool true))])
theorem eIsB (ts : List Tok) (i k : Nat) (s : List UInt8) (hm : ts.length ≤ 1000000000) {b : Bool} (h : at? ts i k s = b) : Con Tryz.prog 136 [.ptr 3000 0, .c (.lit (.int .i64 (k : Int))), .c (.lit (str s))] [(3000, eRdr ts i)] (.c (.lit (.bool b))) [(3000, eRdr ts i)] := by
  have c := eIs ts i k s hm; rw [h] at c; exact c
theorem eOfB (ts : List Tok) (i k : Nat) (hm : ts.length ≤ 1000000000) {b : Bool} (h : of? ts i k = b) : Con Tryz.prog 137 [.ptr 3000 0, .c (.lit (.int .i64 (k : Int)))] [(3000, eRdr ts i)] (.c (.lit (.bool b))) [(3000, eRdr ts i)] := by
  have c := eOf ts i k hm; rw [h] at c; exact c
theorem frE_at {ts : List Tok} {i : Nat} {x : Tok} (h : ts[i]? = some x) : frE ts i = (x.a : Int) := by unfold frE; rw [h]
theorem frE_end {ts : List Tok} {i : Nat} (h : ¬ i < ts.length) : frE ts i = 0 := by unfold frE; rw [List.getElem?_eq_none (by omega)]
theorem behE_at {ts : List Tok} {i : Nat} {x : Tok} (h : ts[i]? = some x) : behE ts (i + 1) = (x.b : Int) := by unfold behE; rw [Nat.add_sub_cancel, h]
theorem strE_at {ts : List Tok} {i : Nat} {x : Tok} (h : ts[i]? = some x) : strE ts i = x.s := by unfold strE; rw [h]
theorem nbrE_at {ts : List Tok} {i : Nat} {x : Tok} (h : ts[i]? = some x) : nbrE ts i = x.n := by unfold nbrE; rw [h]
theorem idx_pred {ts : List Tok} {j : Nat} {x : Tok} (h : ts[j]? = some x) : (ts.map tokD)[((((j + 1 : Nat) : Int) - 1).toNat)]? = some (tokD x) := by
  rw [show ((((j + 1 : Nat) : Int) - 1).toNat) = j by omega]; simp [h]
theorem tok_at {ts : List Tok} {i : Nat} (h : i < ts.length) : ∃ x, ts[i]? = some x := ⟨_, List.getElem?_eq_getElem h⟩

theorem eSignT (ts : List Tok) (i : Nat) (s : List UInt8) (hm : ts.length ≤ 1000000000) (h : at? ts i 5 s = true) : Con Tryz.prog 119 [.ptr 3000 0, .c (.lit (str s))] [(3000, eRdr ts i)] (.c (.lit (.bool true))) [(3000, eRdr ts (i + 1))] := by
  have c := eTakesT ts i 5 s hm h; refine gg [38,5,1,0,9,4,3000,4,1,0,5,2,2] ?_; refine gc (c) [1,0,9,2,3000,4,33] ?_; exact ⟨.inl rfl, _, rfl, .refl _, rfl, trivial⟩
theorem eSignF (ts : List Tok) (i : Nat) (s : List UInt8) (hm : ts.length ≤ 1000000000) (h : at? ts i 5 s = false) : Con Tryz.prog 119 [.ptr 3000 0, .c (.lit (str s))] [(3000, eRdr ts i)] (.c (.lit (.bool false))) [(3000, eRdr ts i)] := by
  have c := eTakesF ts i 5 s hm h; refine gg [38,5,1,0,9,4,3000,4,1,0,5,2,2] ?_; refine gc (c) [1,0,9,2,3000,4,33] ?_; exact ⟨.inl rfl, _, rfl, .refl _, rfl, trivial⟩
theorem eWordT (ts : List Tok) (i : Nat) (s : List UInt8) (hm : ts.length ≤ 1000000000) (h : at? ts i 2 s = true) : Con Tryz.prog 80 [.ptr 3000 0, .c (.lit (str s))] [(3000, eRdr ts i)] (.c (.lit (.bool true))) [(3000, eRdr ts (i + 1))] := by
  have c := eTakesT ts i 2 s hm h; refine gg [38,5,1,0,9,4,3000,4,1,0,5,2,2] ?_; refine gc (c) [1,0,9,2,3000,4,33] ?_; exact ⟨.inl rfl, _, rfl, .refl _, rfl, trivial⟩
theorem eWordF (ts : List Tok) (i : Nat) (s : List UInt8) (hm : ts.length ≤ 1000000000) (h : at? ts i 2 s = false) : Con Tryz.prog 80 [.ptr 3000 0, .c (.lit (str s))] [(3000, eRdr ts i)] (.c (.lit (.bool false))) [(3000, eRdr ts i)] := by
  have c := eTakesF ts i 2 s hm h; refine gg [38,5,1,0,9,4,3000,4,1,0,5,2,2] ?_; refine gc (c) [1,0,9,2,3000,4,33] ?_; exact ⟨.inl rfl, _, rfl, .refl _, rfl, trivial⟩
theorem eFrom (ts : List Tok) (i : Nat) (hm : ts.length ≤ 1000000000) : Con Tryz.prog 79 [.ptr 3000 0] [(3000, eRdr ts i)] (.c (.lit (.int .i64 (frE ts i)))) [(3000, eRdr ts i)] := by
  have hl := toks_len (ts := ts); refine gg [38,5,1,0,9,3,3000,2,0,31,5,2,13,6,1,1,7,2,13,6,0,1,7,18] ?_; refine bL ?_ ?_
  · intro h12; obtain ⟨x, hx⟩ := tok_at (ts := ts) (i := i) (by omega); refine gg [4,9,4,3000,12,2,0,32,5,2,13,6,0,1,7,2,13,6,1,1,7] ?_; refine u rfl rfl (r_indexAddr (e := 76) (sz := 5) rfl rfl (by kernel_rfl) rfl rfl (by omega) (toksD_get hx)) ?_; refine gg [19,1,1,12,1,4,9,2,3000,2,33] ?_; exact ⟨.inl rfl, _, rfl, .ofI (frE_at hx), rfl, trivial⟩
  intro h12; refine gg [4,9,4,3000,12,2,0,8,34,5,1,0,9,2,3000,2,33] ?_; exact ⟨.inl rfl, _, rfl, .ofI (frE_end (by omega)), rfl, trivial⟩
theorem eBehind (ts : List Tok) (i : Nat) (hm : ts.length ≤ 1000000000) (h1 : 1 ≤ i) (h2 : i ≤ ts.length) : Con Tryz.prog 121 [.ptr 3000 0] [(3000, eRdr ts i)] (.c (.lit (.int .i64 (behE ts i)))) [(3000, eRdr ts i)] := by
  have hl := toks_len (ts := ts); obtain ⟨j, rfl⟩ : ∃ j, i = j + 1 := ⟨i - 1, by omega⟩; obtain ⟨x, hx⟩ := tok_at (ts := ts) (i := j) (by omega); refine gg [38,5,1,0,9,3,3000,2,0,5,2,13,6,0,1,7,2,13,6,1,1,7] ?_; refine u rfl rfl (r_subI rfl rfl rfl rfl (by omega)) ?_; refine u rfl rfl (r_indexAddr (e := 76) (sz := 5) rfl rfl (by kernel_rfl) rfl rfl (by omega) (idx_pred hx)) ?_; refine gg [19,2,1,12,1,4,9,2,3000,2,33] ?_; exact ⟨.inl rfl, _, rfl, .ofI (behE_at hx), rfl, trivial⟩
def nmE (s : List UInt8) : List E := [.c (.lit (str s))]
theorem eName (ts : List Tok) (i : Nat) (hm : ts.length ≤ 1000000000) (hi : i ≤ ts.length) {M : QR (List UInt8)} (hM : qName ts i = M) : Con Tryz.prog 114 [.ptr 3000 0] [(3000, eRdr ts i)] (retQ nmE [.c .any] M) [(3000, eRdr ts (posQ M))] := by
  have hl := toks_len (ts := ts); unfold qName at hM; refine con_intro rfl rfl (by kernel_rfl) (by rcases M with _ | ⟨_, _⟩ <;> kernel_rfl) ?_; refine gg [5,1,1,0,9,4,3000,3,2,0,31,5,2] ?_
  rcases h1 : of? ts i 1 with _ | _
  · try simp only [h1, if_true, if_false, Bool.false_eq_true] at hM
    refine gc (eOfB ts i 1 hm h1) [15,0,9,5,3000,6,3,2,0,32,5,1,1,0,9,4,3000,3,2,0,33] ?_; subst hM; exact ⟨.inl rfl, _, rfl, .tup ⟨.c (.any _), .refl _, trivial⟩, rfl, trivial⟩
  try simp only [h1, if_true, if_false, Bool.false_eq_true] at hM
  have := ofl h1; refine gc (eOfB ts i 1 hm h1) [15,0,9,5,3000,6,3,2,0,8,34,31] ?_; obtain ⟨x, hx⟩ := tok_at (ts := ts) (i := i) (by omega); refine gg [37,2,13,6,1,1,7,27,13,6,1,1,11,0,9,4,3000,3,2,0,5,2,13,6,0,1,7,2,13,6,1,1,7] ?_; refine u rfl rfl (r_subI rfl rfl rfl rfl (by omega)) ?_; refine u rfl rfl (r_indexAddr (e := 76) (sz := 5) rfl rfl (by kernel_rfl) rfl rfl (by omega) (idx_pred hx)) ?_; refine gg [19,3,1,12,1,1,4,9,3,3000,3,2,33] ?_; subst hM; exact ⟨.inl rfl, _, rfl, .of (by rw [strE_at hx]; rfl), rfl, trivial⟩
theorem mRead_nn (ts : List Tok) (i : Nat) (hi : i ≤ ts.length) : 0 ≤ (mRead ts i).2.1 ∧ ((mRead ts i).2.2 = 0 ∨ (mRead ts i).2.2 = 3) := by
  unfold mRead; rw [if_neg (by omega)]
  split
  · exact ⟨Int.natCast_nonneg _, .inl rfl⟩
  exact ⟨Int.natCast_nonneg _, .inr rfl⟩
def typE (t : Ty) : List E := [.agg (tyX t)]
theorem eTyp (ts : List Tok) (i : Nat) (hm : ts.length ≤ 1000000000) (hi : i ≤ ts.length) {M : QR Ty} (hM : qTyp ts i = M) : Con Tryz.prog 138 [.ptr 3000 0] [(3000, eRdr ts i)] (retQ typE [.agg [.any, .any, .any]] M) [(3000, eRdr ts (posQ M))] := by
  have c := nRead_any ts i hm; obtain ⟨hn, h3⟩ := mRead_nn ts i hi; unfold qTyp at hM
  rcases hr : mRead ts i with ⟨t, n, b⟩
  rw [hr] at c hn h3 hM; simp only at hn h3 hM; obtain ⟨n, rfl⟩ : ∃ k : Nat, n = (k : Int) := ⟨n.toNat, by omega⟩; simp only [readD, tyX_eq] at c; refine con_intro rfl rfl (by kernel_rfl) (by rcases M with _ | ⟨_, _⟩ <;> kernel_rfl) ?_; refine gg [5,25,2002,1,0,9,5,3000,2002,3,2,0,5,2,13,6,0,1,7,2,13,6,1,1,7] ?_; refine gc (c) [2,14,14,14,25,2004,10,1,1,4,9,9,3000,2004,2002,6,5,4,3,2,0,5,2,2,13,6,1,1,11,0,9,7,3000,2004,2002,6,4,3,2,5,20,3,2] ?_; refine bE ?_ ?_
  · intro h26; refine gg [10,1,0,9,4,3000,2002,3,2,33] ?_; rw [if_pos h26] at hM; subst hM; exact ⟨.inl rfl, _, rfl, .refl _, rfl, trivial⟩
  intro h26; refine gg [10,1,0,9,4,3000,2002,3,2,33] ?_; rw [if_neg h26] at hM; subst hM; exact ⟨.inl rfl, _, rfl, .tup ⟨.agg ⟨.any _, .any _, .any _, trivial⟩, .refl _, trivial⟩, rfl, trivial⟩
theorem eMaybe (ts : List Tok) (i : Nat) (hm : ts.length ≤ 1000000000) (hi : i ≤ ts.length) {M : QR Ty} (hM : qMaybe ts i = M) : Con Tryz.prog 116 [.ptr 3000 0] [(3000, eRdr ts i)] (retQ typE [.agg [.any, .any, .any]] M) [(3000, eRdr ts (posQ M))] := by
  unfold qMaybe at hM; refine con_intro rfl rfl (by kernel_rfl) (by rcases M with _ | ⟨_, _⟩ <;> kernel_rfl) ?_; refine gg [5,25,2002,1,0,9,5,3000,2002,3,2,0,31,5,2] ?_
  rcases h2 : at? ts i 5 [58] with _ | _
  · try simp only [h2, if_true, if_false, Bool.false_eq_true] at hM
    refine gc (eSignF ts i [58] hm h2) [15,0,9,6,3000,2002,6,3,2,0,32,5] ?_; refine u rfl rfl (r_build (zs := zt) (qs := [(0, 1), (1, 1), (2, 1)]) dt rfl rfl (by kernel_rfl) (by kernel_rfl) kt rfl rfl) ?_; refine gg [10,1,0,9,5,3000,2002,3,2,0,33] ?_; subst hM; first | exact lr rfl (.refl _) ⟨rfl, trivial⟩ | exact lr rfl jk3 ⟨rfl, trivial⟩
  try simp only [h2, if_true, if_false, Bool.false_eq_true] at hM
  have := atl h2; refine gc (eSignT ts i [58] hm h2) [15,0,9,6,3000,2002,6,3,2,0,8,34,5,2] ?_
  rcases h3 : qTyp ts (i + 1) with ⟨e3, q3⟩ | ⟨t3, j3⟩
  · simp only [h3, if_true, if_false, Bool.false_eq_true] at hM; obtain ⟨_, _, _⟩ := okE (qTyp_ok ts (i + 1) (by omega)) h3; refine gc (eTyp ts (i + 1) hm (by omega) h3) [14,14,10,1,0,9,4,3000,2002,3,2,33] ?_; subst hM; first | exact lr rfl (.refl _) ⟨rfl, trivial⟩ | exact lr rfl jk3 ⟨rfl, trivial⟩
  simp only [h3, if_true, if_false, Bool.false_eq_true] at hM; obtain ⟨_, _⟩ := okO (qTyp_ok ts (i + 1) (by omega)) h3; refine gc (eTyp ts (i + 1) hm (by omega) h3) [14,14,10,1,0,9,4,3000,2002,3,2,33] ?_; subst hM; first | exact lr rfl (.refl _) ⟨rfl, trivial⟩ | exact lr rfl jk3 ⟨rfl, trivial⟩
def parE (p : List UInt8 × Ty) : List E := [.c (.lit (str p.1)), .agg (tyX p.2)]
theorem eParam (ts : List Tok) (i : Nat) (hm : ts.length ≤ 1000000000) (hi : i ≤ ts.length) {M : QR (List UInt8 × Ty)} (hM : qParam ts i = M) : Con Tryz.prog 115 [.ptr 3000 0] [(3000, eRdr ts i)] (retQ parE [.c .any, .agg [.any, .any, .any]] M) [(3000, eRdr ts (posQ M))] := by
  unfold qParam at hM; refine con_intro rfl rfl (by kernel_rfl) (by rcases M with _ | ⟨_, _⟩ <;> kernel_rfl) ?_; refine gg [5,1,25,2003,1,0,9,6,3000,2003,4,3,2,0,31,5,2] ?_
  rcases h4 : at? ts i 5 [40] with _ | _
  · try simp only [h4, if_true, if_false, Bool.false_eq_true] at hM
    refine gc (eSignF ts i [40] hm h4) [15,0,9,7,3000,2003,12,4,3,2,0,32,5,2] ?_
    rcases h5 : qName ts i with ⟨e5, q5⟩ | ⟨s5, j5⟩
    · simp only [h5, if_true, if_false, Bool.false_eq_true] at hM; obtain ⟨_, _, _⟩ := okE (qName_ok ts i (by omega)) h5; refine gc (eName ts i hm (by omega) h5) [2,14,14,1,1,0,9,8,3000,2003,6,5,4,3,2,0,5,2] ?_; refine u rfl rfl (r_build (zs := zt) (qs := [(0, 1), (1, 1), (2, 1)]) dt rfl rfl (by kernel_rfl) (by kernel_rfl) kt rfl rfl) ?_; refine gg [2,1,10,1,0,9,6,3000,2003,4,3,2,0,33] ?_; subst hM; first | exact lr rfl (.refl _) ⟨rfl, trivial⟩ | exact lr rfl (.tup ⟨.c (.any _), .agg ⟨.any _, .any _, .any _, trivial⟩, .refl _, trivial⟩) ⟨rfl, trivial⟩
    simp only [h5, if_true, if_false, Bool.false_eq_true] at hM; obtain ⟨_, _⟩ := okO (qName_ok ts i (by omega)) h5; refine gc (eName ts i hm (by omega) h5) [2,14,14,1,1,0,9,8,3000,2003,6,5,4,3,2,0,5,2] ?_; refine u rfl rfl (r_build (zs := zt) (qs := [(0, 1), (1, 1), (2, 1)]) dt rfl rfl (by kernel_rfl) (by kernel_rfl) kt rfl rfl) ?_; refine gg [2,1,10,1,0,9,6,3000,2003,4,3,2,0,33] ?_; subst hM; first | exact lr rfl (.refl _) ⟨rfl, trivial⟩ | exact lr rfl (.tup ⟨.c (.any _), .agg ⟨.any _, .any _, .any _, trivial⟩, .refl _, trivial⟩) ⟨rfl, trivial⟩
  try simp only [h4, if_true, if_false, Bool.false_eq_true] at hM
  have := atl h4; refine gc (eSignT ts i [40] hm h4) [15,0,9,7,3000,2003,12,4,3,2,0,8,34,5,2] ?_
  rcases h6 : qName ts (i + 1) with ⟨e6, q6⟩ | ⟨s6, j6⟩
  · simp only [h6, if_true, if_false, Bool.false_eq_true] at hM; obtain ⟨_, _, _⟩ := okE (qName_ok ts (i + 1) (by omega)) h6; refine gc (eName ts (i + 1) hm (by omega) h6) [2,14,14,1,1,0,9,8,3000,2003,8,7,4,3,2,0,31,5,2,15,2,39,3,16,0,9,9,3000,2003,32,8,7,4,3,2,0,32,5] ?_; refine u rfl rfl (r_build (zs := zt) (qs := [(0, 1), (1, 1), (2, 1)]) dt rfl rfl (by kernel_rfl) (by kernel_rfl) kt rfl rfl) ?_; refine gg [1,10,1,0,9,8,3000,2003,8,7,4,3,2,0,33] ?_; subst hM; first | exact lr rfl (.refl _) ⟨rfl, trivial⟩ | exact lr rfl (.tup ⟨.c (.any _), .agg ⟨.any _, .any _, .any _, trivial⟩, .refl _, trivial⟩) ⟨rfl, trivial⟩
  simp only [h6, if_true, if_false, Bool.false_eq_true] at hM; obtain ⟨_, _⟩ := okO (qName_ok ts (i + 1) (by omega)) h6; refine gc (eName ts (i + 1) hm (by omega) h6) [2,14,14,1,1,0,9,8,3000,2003,8,7,4,3,2,0,31,5,2,15,2,2] ?_
  rcases h7 : at? ts j6 5 [58] with _ | _
  · try simp only [h7, if_true, if_false, Bool.false_eq_true] at hM
    refine gc (eSignF ts j6 [58] hm h7) [15,17,0,9,9,3000,2003,32,8,7,4,3,2,0,32,5] ?_; refine u rfl rfl (r_build (zs := zt) (qs := [(0, 1), (1, 1), (2, 1)]) dt rfl rfl (by kernel_rfl) (by kernel_rfl) kt rfl rfl) ?_; refine gg [1,10,1,0,9,8,3000,2003,8,7,4,3,2,0,33] ?_; subst hM; first | exact lr rfl (.refl _) ⟨rfl, trivial⟩ | exact lr rfl (.tup ⟨.c (.any _), .agg ⟨.any _, .any _, .any _, trivial⟩, .refl _, trivial⟩) ⟨rfl, trivial⟩
  try simp only [h7, if_true, if_false, Bool.false_eq_true] at hM
  have := atl h7; refine gc (eSignT ts j6 [58] hm h7) [15,17,0,9,9,3000,2003,32,8,7,4,3,2,0,8,34,5,2] ?_
  rcases h8 : qTyp ts (j6 + 1) with ⟨e8, q8⟩ | ⟨t8, j8⟩
  · simp only [h8, if_true, if_false, Bool.false_eq_true] at hM; obtain ⟨_, _, _⟩ := okE (qTyp_ok ts (j6 + 1) (by omega)) h8; refine gc (eTyp ts (j6 + 1) hm (by omega) h8) [2,14,14,25,2009,10,1,0,9,10,3000,2009,2003,9,8,7,4,3,2,0,5,2,20,3,2,2,3,3,17,1,10,1,4,9,5,3000,2003,4,3,2,33] ?_; subst hM; first | exact lr rfl (.refl _) ⟨rfl, trivial⟩ | exact lr rfl (.tup ⟨.c (.any _), .agg ⟨.any _, .any _, .any _, trivial⟩, .refl _, trivial⟩) ⟨rfl, trivial⟩
  simp only [h8, if_true, if_false, Bool.false_eq_true] at hM; obtain ⟨_, _⟩ := okO (qTyp_ok ts (j6 + 1) (by omega)) h8; refine gc (eTyp ts (j6 + 1) hm (by omega) h8) [2,14,14,25,2009,10,1,0,9,10,3000,2009,2003,9,8,7,4,3,2,0,5,2,20,3,2,2,2] ?_
  rcases h9 : at? ts j8 5 [41] with _ | _
  · try simp only [h9, if_true, if_false, Bool.false_eq_true] at hM
    refine gc (eSignF ts j8 [41] hm h9) [16,1,10,1,4,9,5,3000,2003,4,3,2,33] ?_; subst hM; first | exact lr rfl (.refl _) ⟨rfl, trivial⟩ | exact lr rfl (.tup ⟨.c (.any _), .agg ⟨.any _, .any _, .any _, trivial⟩, .refl _, trivial⟩) ⟨rfl, trivial⟩
  try simp only [h9, if_true, if_false, Bool.false_eq_true] at hM
  have := atl h9; refine gc (eSignT ts j8 [41] hm h9) [16,1,10,1,4,9,5,3000,2003,4,3,2,33] ?_; subst hM; first | exact lr rfl (.refl _) ⟨rfl, trivial⟩ | exact lr rfl (.tup ⟨.c (.any _), .agg ⟨.any _, .any _, .any _, trivial⟩, .refl _, trivial⟩) ⟨rfl, trivial⟩

end Go.Proofs.YtlagglkpbnbmeaaGreatDoor
