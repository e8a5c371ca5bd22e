/- The program's reader of expressions: trees as shadows, atoms. -/
import Derived.Test.YtlagglkpbnbmeaaGreatDoorShC
import Derived.Test.YtlagglkpbnbmeaaGreatDoorEp2
namespace Go.Proofs.YtlagglkpbnbmeaaGreatDoor
open Go Go.RowKit
set_option maxRecDepth 100000
set_option maxHeartbeats 2000000
set_option linter.unusedVariables false
set_option linter.unusedSimpArgs false

mutual
def paD : Pa → List D
  | .mk k a b nm n s kids => [.lit (.int .i64 k), .lit (.int .i64 a), .lit (.int .i64 b), .lit (str nm), .lit (.int .i64 n), .lit (str s), .sl 7 (pasD kids)]
def pasD : List Pa → List (List D)
  | [] => []
  | p :: r => paD p :: pasD r
end
mutual
def exD : Ex → List D
  | .mk k a b nm arg n s op A B pats kids => [.lit (.int .i64 k), .lit (.int .i64 a), .lit (.int .i64 b), .lit (str nm), .lit (str arg), .lit (.int .i64 n), .lit (str s), .lit (.int .i64 op),
      .lit (.int .i64 A.kind), .lit (.int .i64 A.num), .sl 3 (tysD A.kids), .lit (.int .i64 B.kind), .lit (.int .i64 B.num), .sl 3 (tysD B.kids), .sl 7 (pasD pats), .sl 16 (exsD kids)]
def exsD : List Ex → List (List D)
  | [] => []
  | e :: r => exD e :: exsD r
end
namespace Pa
def kind : Pa → Int | mk k _ _ _ _ _ _ => k
def nm : Pa → List UInt8 | mk _ _ _ x _ _ _ => x
def n : Pa → Int | mk _ _ _ _ x _ _ => x
def s : Pa → List UInt8 | mk _ _ _ _ _ x _ => x
def kids : Pa → List Pa | mk _ _ _ _ _ _ x => x
end Pa
namespace Ex
def kind : Ex → Int | mk k _ _ _ _ _ _ _ _ _ _ _ => k
def nm : Ex → List UInt8 | mk _ _ _ x _ _ _ _ _ _ _ _ => x
def arg : Ex → List UInt8 | mk _ _ _ _ x _ _ _ _ _ _ _ => x
def n : Ex → Int | mk _ _ _ _ _ x _ _ _ _ _ _ => x
def s : Ex → List UInt8 | mk _ _ _ _ _ _ x _ _ _ _ _ => x
def op : Ex → Int | mk _ _ _ _ _ _ _ x _ _ _ _ => x
def A : Ex → Ty | mk _ _ _ _ _ _ _ _ x _ _ _ => x
def B : Ex → Ty | mk _ _ _ _ _ _ _ _ _ x _ _ => x
def pats : Ex → List Pa | mk _ _ _ _ _ _ _ _ _ _ x _ => x
def kids : Ex → List Ex | mk _ _ _ _ _ _ _ _ _ _ _ x => x
end Ex
def paX (p : Pa) : List D := [.lit (.int .i64 p.kind), .lit (.int .i64 p.fr), .lit (.int .i64 p.to), .lit (str p.nm), .lit (.int .i64 p.n), .lit (str p.s), .sl 7 (pasD p.kids)]
def exX (e : Ex) : List D := [.lit (.int .i64 e.kind), .lit (.int .i64 e.fr), .lit (.int .i64 e.to), .lit (str e.nm), .lit (str e.arg), .lit (.int .i64 e.n), .lit (str e.s), .lit (.int .i64 e.op),
      .lit (.int .i64 e.A.kind), .lit (.int .i64 e.A.num), .sl 3 (tysD e.A.kids), .lit (.int .i64 e.B.kind), .lit (.int .i64 e.B.num), .sl 3 (tysD e.B.kids), .sl 7 (pasD e.pats), .sl 16 (exsD e.kids)]
theorem paD_eq (p : Pa) : paD p = paX p := by cases p; rw [paD]; rfl
theorem exD_eq (e : Ex) : exD e = exX e := by cases e; rw [exD]; rfl
theorem pasD_map : ∀ l : List Pa, pasD l = l.map paX
  | [] => by rw [pasD]; rfl
  | p :: r => by rw [pasD, pasD_map r, paD_eq]; rfl
theorem exsD_map : ∀ l : List Ex, exsD l = l.map exX
  | [] => by rw [exsD]; rfl
  | p :: r => by rw [exsD, exsD_map r, exD_eq]; rfl
theorem exsD_len (l : List Ex) : (exsD l).length = l.length := by rw [exsD_map]; simp
theorem exsD_last {l : List Ex} {x : Ex} (h : l.getLast? = some x) {n : Int} (hn : n = ((exsD l).length : Int) - 1) : (exsD l)[n.toNat]? = some (exX x) := by
  subst hn; rw [exsD_len, exsD_map, List.getElem?_map]; rw [List.getLast?_eq_getElem?] at h; rw [show ((l.length : Int) - 1).toNat = l.length - 1 by omega, h]; rfl
abbrev exJ : List D := [.any, .any, .any, .any, .any, .any, .any, .any, .any, .any, .any, .any, .any, .any, .any, .any]
abbrev paJ : List D := [.any, .any, .any, .any, .any, .any, .any]
def exE (e : Ex) : List E := [.agg (exX e)]
def Ex.put (e : Ex) (a b : Int) : Ex := .mk e.kind a b e.nm e.arg e.n e.s e.op e.A e.B e.pats e.kids
abbrev exB (fr : Int) : Ex := .mk 0 fr 0 [] [] 0 [] 0 noTy noTy [] []

theorem eEnds (e l : Ex) (fr : Int) (hl : e.kids.getLast? = some l) (hk : e.kids.length ≤ 1000000000) : Con Tryz.prog 118 [.agg (exX e), .c (.lit (.int .i64 fr))] [] (.agg (exX (e.put fr l.to))) [] := by
  have h0 := exsD_len e.kids; have h1 : 0 < e.kids.length := by
    rcases h : e.kids with _ | ⟨a, r⟩
    · rw [h] at hl; cases hl
    simp
  refine gg [38,5,22,2002,23,2004,0,9,5,2004,2002,4,2,1,5,2,6,15,1,7,6,15,1,7,18] ?_; refine u rfl rfl (r_subI rfl rfl rfl rfl (by omega)) ?_; refine u rfl rfl (r_indexAddr (e := 30) (sz := 16) rfl rfl (by kernel_rfl) rfl rfl (by omega) (exsD_last hl rfl)) ?_; refine gg [19,1,2,19,1,1,12] ?_; refine u rfl rfl (r_build (zs := [.int .i64 0, .int .i64 0]) (qs := [(0, 1), (1, 1)]) [.lit (.int .i64 0), .lit (.int .i64 0)] rfl rfl (by kernel_rfl) (by kernel_rfl) ⟨.refl _, .refl _, trivial⟩ rfl rfl) ?_; refine gg [6,1,2,10,0,9,4,2004,2002,4,2,5,20,16,10,0,9,2,2004,4,33] ?_; exact ⟨.inl rfl, _, rfl, .refl _, trivial⟩
theorem eTwoOk (k op : Int) (a b : Ex) : Con Tryz.prog 123 [.c (.lit (.int .i64 k)), .c (.lit (.int .i64 op)), .agg (exX a), .agg (exX b)] [] (.agg (exX (eTwo k op a b))) [] := by
  refine gg [38,5,22,2006,22,2007,23,2008,0,9,8,2008,2007,2006,8,7,6,1,0,5,2,2,6,1,2,6,0,1,7,6,1,2,6,1,1,7] ?_; refine u rfl rfl (r_build (zs := [.int .i64 0, .int .i64 0]) (qs := [(0, 1), (1, 1)]) [.lit (.int .i64 0), .lit (.int .i64 0)] rfl rfl (by kernel_rfl) (by kernel_rfl) ⟨.refl _, .refl _, trivial⟩ rfl rfl) ?_; refine gg [20,16,20,16] ?_; refine u rfl rfl (r_buildSlice (e := 30) (sz := 16) (zs := zx) (exsD [a, b]) rfl rfl (by kernel_rfl) (by kernel_rfl) rfl rfl (by simp only [exsD, exD_eq]; rfl) (by simp only [exsD, exD_eq]; rfl)) ?_; refine u rfl rfl (r_build (zs := zx) (qs := [(0, 1), (1, 2), (3, 1), (4, 1), (5, 1), (6, 1), (7, 1), (8, 3), (11, 3), (14, 1), (15, 1)]) dx rfl rfl (by kernel_rfl) (by kernel_rfl) kx rfl rfl) ?_; refine gg [10,0,9,2,2008,8,33] ?_; exact ⟨.inl rfl, _, rfl, .refl _, trivial⟩
theorem eTwoJ (k op : Int) (a : Ex) : Con Tryz.prog 123 [.c (.lit (.int .i64 k)), .c (.lit (.int .i64 op)), .agg (exX a), .agg exJ] [] (.agg exJ) [] := by
  refine gg [38,5,22,2006,22,2007,23,2008,0,9,8,2008,2007,2006,8,7,6,1,0,5,2,2,6,1,2,6,0,1,7,6,1,2,6,1,1,7] ?_; refine u rfl rfl (r_build (zs := [.int .i64 0, .int .i64 0]) (qs := [(0, 1), (1, 1)]) [.lit (.int .i64 0), .lit (.int .i64 0)] rfl rfl (by kernel_rfl) (by kernel_rfl) ⟨.refl _, .refl _, trivial⟩ rfl rfl) ?_; refine gg [20,16,20,16] ?_; refine u rfl rfl (r_buildSlice (e := 30) (sz := 16) (zs := zx) ([exX a, exJ]) rfl rfl (by kernel_rfl) (by kernel_rfl) rfl rfl rfl rfl) ?_; refine u rfl rfl (r_build (zs := zx) (qs := [(0, 1), (1, 2), (3, 1), (4, 1), (5, 1), (6, 1), (7, 1), (8, 3), (11, 3), (14, 1), (15, 1)]) dx rfl rfl (by kernel_rfl) (by kernel_rfl) kx rfl rfl) ?_; refine gg [10,0,9,2,2008,8,33] ?_; exact ⟨.inl rfl, _, rfl, .agg ⟨.any _, .any _, .any _, .any _, .any _, .any _, .any _, .any _, .any _, .any _, .any _, .any _, .any _, .any _, .any _, .any _, trivial⟩, trivial⟩
theorem eBeginsB (ts : List Tok) (i : Nat) (hm : ts.length ≤ 1000000000) {b : Bool} (hM : eBegins ts i = b) : Con Tryz.prog 165 [.ptr 3000 0] [(3000, eRdr ts i)] (.c (.lit (.bool b))) [(3000, eRdr ts i)] := by
  unfold eBegins at hM; refine gg [38,5,1,0,9,3,3000,2,0,5,2] ?_
  rcases h1 : of? ts i 1 with _ | _
  · try simp only [h1, if_true, if_false, Bool.false_eq_true, Bool.true_or, Bool.false_or, Bool.or_true, Bool.or_false] at hM
    refine gc (eOfB ts i 1 hm h1) [2,2] ?_
    rcases h2 : of? ts i 3 with _ | _
    · try simp only [h2, if_true, if_false, Bool.false_eq_true, Bool.true_or, Bool.false_or, Bool.or_true, Bool.or_false] at hM
      refine gc (eOfB ts i 3 hm h2) [17,2,2] ?_
      rcases h3 : of? ts i 4 with _ | _
      · try simp only [h3, if_true, if_false, Bool.false_eq_true, Bool.true_or, Bool.false_or, Bool.or_true, Bool.or_false] at hM
        refine gc (eOfB ts i 4 hm h3) [17,2,2] ?_
        rcases h4 : at? ts i 2 [116, 114, 117, 101] with _ | _
        · try simp only [h4, if_true, if_false, Bool.false_eq_true, Bool.true_or, Bool.false_or, Bool.or_true, Bool.or_false] at hM
          refine gc (eIsB ts i 2 [116, 114, 117, 101] hm h4) [17,2,2] ?_
          rcases h5 : at? ts i 2 [102, 97, 108, 115, 101] with _ | _
          · try simp only [h5, if_true, if_false, Bool.false_eq_true, Bool.true_or, Bool.false_or, Bool.or_true, Bool.or_false] at hM
            refine gc (eIsB ts i 2 [102, 97, 108, 115, 101] hm h5) [17,2,2] ?_
            rcases h6 : at? ts i 5 [40] with _ | _
            · try simp only [h6, if_true, if_false, Bool.false_eq_true, Bool.true_or, Bool.false_or, Bool.or_true, Bool.or_false] at hM
              refine gc (eIsB ts i 5 [40] hm h6) [17,2,2] ?_
              rcases h7 : at? ts i 5 [91] with _ | _
              · try simp only [h7, if_true, if_false, Bool.false_eq_true, Bool.true_or, Bool.false_or, Bool.or_true, Bool.or_false] at hM
                refine gc (eIsB ts i 5 [91] hm h7) [17,1,0,9,2,3000,2,33] ?_; subst hM; exact ⟨.inl rfl, _, rfl, .refl _, rfl, trivial⟩
              try simp only [h7, if_true, if_false, Bool.false_eq_true, Bool.true_or, Bool.false_or, Bool.or_true, Bool.or_false] at hM
              have := atl h7; refine gc (eIsB ts i 5 [91] hm h7) [17,1,0,9,2,3000,2,33] ?_; subst hM; exact ⟨.inl rfl, _, rfl, .refl _, rfl, trivial⟩
            try simp only [h6, if_true, if_false, Bool.false_eq_true, Bool.true_or, Bool.false_or, Bool.or_true, Bool.or_false] at hM
            have := atl h6; refine gc (eIsB ts i 5 [40] hm h6) [17,2,3,3,16,1,0,9,2,3000,2,33] ?_; subst hM; exact ⟨.inl rfl, _, rfl, .refl _, rfl, trivial⟩
          try simp only [h5, if_true, if_false, Bool.false_eq_true, Bool.true_or, Bool.false_or, Bool.or_true, Bool.or_false] at hM
          have := atl h5; refine gc (eIsB ts i 2 [102, 97, 108, 115, 101] hm h5) [17,2,3,3,16,2,3,3,16,1,0,9,2,3000,2,33] ?_; subst hM; exact ⟨.inl rfl, _, rfl, .refl _, rfl, trivial⟩
        try simp only [h4, if_true, if_false, Bool.false_eq_true, Bool.true_or, Bool.false_or, Bool.or_true, Bool.or_false] at hM
        have := atl h4; refine gc (eIsB ts i 2 [116, 114, 117, 101] hm h4) [17,2,3,3,16,2,3,3,16,2,3,3,16,1,0,9,2,3000,2,33] ?_; subst hM; exact ⟨.inl rfl, _, rfl, .refl _, rfl, trivial⟩
      try simp only [h3, if_true, if_false, Bool.false_eq_true, Bool.true_or, Bool.false_or, Bool.or_true, Bool.or_false] at hM
      have := ofl h3; refine gc (eOfB ts i 4 hm h3) [17,2,3,3,16,2,3,3,16,2,3,3,16,2,3,3,16,1,0,9,2,3000,2,33] ?_; subst hM; exact ⟨.inl rfl, _, rfl, .refl _, rfl, trivial⟩
    try simp only [h2, if_true, if_false, Bool.false_eq_true, Bool.true_or, Bool.false_or, Bool.or_true, Bool.or_false] at hM
    have := ofl h2; refine gc (eOfB ts i 3 hm h2) [17,2,3,3,16,2,3,3,16,2,3,3,16,2,3,3,16,2,3,3,16,1,0,9,2,3000,2,33] ?_; subst hM; exact ⟨.inl rfl, _, rfl, .refl _, rfl, trivial⟩
  try simp only [h1, if_true, if_false, Bool.false_eq_true, Bool.true_or, Bool.false_or, Bool.or_true, Bool.or_false] at hM
  have := ofl h1; refine gc (eOfB ts i 1 hm h1) [2,3,3,16,2,3,3,16,2,3,3,16,2,3,3,16,2,3,3,16,2,3,3,16,1,0,9,2,3000,2,33] ?_; subst hM; exact ⟨.inl rfl, _, rfl, .refl _, rfl, trivial⟩
theorem eLeafQ (ts : List Tok) (i : Nat) (hm : ts.length ≤ 1000000000) (hi : i ≤ ts.length) {M : QR Ex} (hM : qLeaf ts i = M) : Con Tryz.prog 167 [.ptr 3000 0] [(3000, eRdr ts i)] (retQ exE [.agg (exX (exB (frE ts i)))] M) [(3000, eRdr ts (posQ M))] := by
  have hl := toks_len (ts := ts); unfold qLeaf at hM; refine con_intro rfl rfl (by kernel_rfl) (by rcases M with _ | ⟨_, _⟩ <;> kernel_rfl) ?_; refine gg [5,23,2002,1,0,9,5,3000,2002,3,2,0,5,2] ?_; refine uC (eFrom ts i hm) ?_; refine u rfl rfl (r_build (zs := [.int .i64 0, .int .i64 0]) (qs := [(0, 1), (1, 1)]) [.lit (.int .i64 0), .lit (.int .i64 0)] rfl rfl (by kernel_rfl) (by kernel_rfl) ⟨.refl _, .refl _, trivial⟩ rfl rfl) ?_; refine u rfl rfl (r_build (zs := zx) (qs := [(0, 1), (1, 2), (3, 1), (4, 1), (5, 1), (6, 1), (7, 1), (8, 3), (11, 3), (14, 1), (15, 1)]) dx rfl rfl (by kernel_rfl) (by kernel_rfl) kx rfl rfl) ?_; refine gg [23,2004,10,0,9,7,3000,2004,2002,4,3,2,0,31,35,5,2] ?_
  rcases h8 : of? ts i 1 with _ | _
  · try simp only [h8, if_true, if_false, Bool.false_eq_true] at hM
    refine gc (eOfB ts i 1 hm h8) [1,0,9,8,3000,2004,2002,10,4,3,2,0,8,5,2] ?_
    rcases h9 : of? ts i 3 with _ | _
    · try simp only [h9, if_true, if_false, Bool.false_eq_true] at hM
      refine gc (eOfB ts i 3 hm h9) [1,0,9,8,3000,2004,2002,26,4,3,2,0,8,5,2] ?_
      rcases h10 : of? ts i 4 with _ | _
      · try simp only [h10, if_true, if_false, Bool.false_eq_true] at hM
        refine gc (eOfB ts i 4 hm h10) [1,0,9,8,3000,2004,2002,42,4,3,2,0,8,5,2] ?_
        rcases h11 : at? ts i 2 [116, 114, 117, 101] with _ | _
        · try simp only [h11, if_true, if_false, Bool.false_eq_true] at hM
          refine gc (eIsB ts i 2 [116, 114, 117, 101] hm h11) [1,0,9,8,3000,2004,2002,58,4,3,2,0,8,5,2] ?_
          rcases h12 : at? ts i 2 [102, 97, 108, 115, 101] with _ | _
          · try simp only [h12, if_true, if_false, Bool.false_eq_true] at hM
            refine gc (eIsB ts i 2 [102, 97, 108, 115, 101] hm h12) [1,0,9,8,3000,2004,2002,63,4,3,2,0,8,5,20,16,10,1,0,9,7,3000,2004,2002,4,3,2,0,33] ?_; subst hM; exact ⟨.inl rfl, _, rfl, .refl _, rfl, trivial⟩
          try simp only [h12, if_true, if_false, Bool.false_eq_true] at hM
          have := atl h12; refine gc (eIsB ts i 2 [102, 97, 108, 115, 101] hm h12) [1,0,9,8,3000,2004,2002,63,4,3,2,0,32,37,6,0,1,11,0,9,7,3000,2004,2002,4,3,2,0,5,2,13,6,1,1,7,27,13,6,1,1,11,0,9,7,3000,2004,2002,4,3,2,0,5,2] ?_; refine gc (eBehind ts (i + 1) hm (by omega) (by omega)) [6,1,2,6,1,1,11,0,9,6,3000,2004,2002,4,3,2,5,20,16,10,1,0,9,4,3000,2002,3,2,33] ?_; subst hM; exact ⟨.inl rfl, _, rfl, .refl _, rfl, trivial⟩
        try simp only [h11, if_true, if_false, Bool.false_eq_true] at hM
        have := atl h11; refine gc (eIsB ts i 2 [116, 114, 117, 101] hm h11) [1,0,9,8,3000,2004,2002,58,4,3,2,0,32,37,6,0,1,11,6,5,1,11,0,9,7,3000,2004,2002,4,3,2,0,5,2,13,6,1,1,7,27,13,6,1,1,11,0,9,7,3000,2004,2002,4,3,2,0,5,2] ?_; refine gc (eBehind ts (i + 1) hm (by omega) (by omega)) [6,1,2,6,1,1,11,0,9,6,3000,2004,2002,4,3,2,5,20,16,10,1,0,9,4,3000,2002,3,2,33] ?_; subst hM; exact ⟨.inl rfl, _, rfl, .refl _, rfl, trivial⟩
      try simp only [h10, if_true, if_false, Bool.false_eq_true] at hM
      have := ofl h10; refine gc (eOfB ts i 4 hm h10) [1,0,9,8,3000,2004,2002,42,4,3,2,0,32] ?_; obtain ⟨x, hx⟩ := tok_at (ts := ts) (i := i) (by omega); refine gg [37,2,13,6,0,1,7,2,13,6,1,1,7] ?_; refine u rfl rfl (r_indexAddr (e := 76) (sz := 5) rfl rfl (by kernel_rfl) rfl rfl (by omega) (toksD_get hx)) ?_; refine gg [19,3,1,12,6,0,1,11,6,6,1,11,4,9,7,3000,2004,2002,4,3,2,0,5,2,13,6,1,1,7,27,13,6,1,1,11,0,9,7,3000,2004,2002,4,3,2,0,5,2] ?_; refine gc (eBehind ts (i + 1) hm (by omega) (by omega)) [6,1,2,6,1,1,11,0,9,6,3000,2004,2002,4,3,2,5,20,16,10,1,0,9,4,3000,2002,3,2,33] ?_; subst hM; exact ⟨.inl rfl, _, rfl, .of (by rw [eLeaf, strE_at hx]; rfl), rfl, trivial⟩
    try simp only [h9, if_true, if_false, Bool.false_eq_true] at hM
    have := ofl h9; refine gc (eOfB ts i 3 hm h9) [1,0,9,8,3000,2004,2002,26,4,3,2,0,32] ?_; obtain ⟨x, hx⟩ := tok_at (ts := ts) (i := i) (by omega); refine gg [37,2,13,6,0,1,7,2,13,6,1,1,7] ?_; refine u rfl rfl (r_indexAddr (e := 76) (sz := 5) rfl rfl (by kernel_rfl) rfl rfl (by omega) (toksD_get hx)) ?_; refine gg [19,4,1,12,6,0,1,11,6,5,1,11,4,9,7,3000,2004,2002,4,3,2,0,5,2,13,6,1,1,7,27,13,6,1,1,11,0,9,7,3000,2004,2002,4,3,2,0,5,2] ?_; refine gc (eBehind ts (i + 1) hm (by omega) (by omega)) [6,1,2,6,1,1,11,0,9,6,3000,2004,2002,4,3,2,5,20,16,10,1,0,9,4,3000,2002,3,2,33] ?_; subst hM; exact ⟨.inl rfl, _, rfl, .of (by rw [eLeaf, nbrE_at hx]; rfl), rfl, trivial⟩
  try simp only [h8, if_true, if_false, Bool.false_eq_true] at hM
  have := ofl h8; refine gc (eOfB ts i 1 hm h8) [1,0,9,8,3000,2004,2002,10,4,3,2,0,32] ?_; obtain ⟨x, hx⟩ := tok_at (ts := ts) (i := i) (by omega); refine gg [37,2,13,6,0,1,7,2,13,6,1,1,7] ?_; refine u rfl rfl (r_indexAddr (e := 76) (sz := 5) rfl rfl (by kernel_rfl) rfl rfl (by omega) (toksD_get hx)) ?_; refine gg [19,3,1,12,6,0,1,11,6,3,1,11,4,9,7,3000,2004,2002,4,3,2,0,5,2,13,6,1,1,7,27,13,6,1,1,11,0,9,7,3000,2004,2002,4,3,2,0,5,2] ?_; refine gc (eBehind ts (i + 1) hm (by omega) (by omega)) [6,1,2,6,1,1,11,0,9,6,3000,2004,2002,4,3,2,5,20,16,10,1,0,9,4,3000,2002,3,2,33] ?_; subst hM; exact ⟨.inl rfl, _, rfl, .of (by rw [eLeaf, strE_at hx]; rfl), rfl, trivial⟩

end Go.Proofs.YtlagglkpbnbmeaaGreatDoor
