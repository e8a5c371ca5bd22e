/- The program's reader of expressions: trees as shadows, atoms. -/
import Derived.Test.YtlagglkpbnbmeaaEp2
namespace Go.Proofs.Ytlagglkpbnbmeaa
open Go Go.RowKit
set_option maxRecDepth 100000
set_option linter.unusedVariables false
set_option linter.unusedSimpArgs false

mutual
def paD : Pa → List D
  | .mk k a b nm n s kids => [.lit (.int .i64 k), .lit (.int .i64 a), .lit (.int .i64 b), .lit (str nm), .lit (.int .i64 n), .lit (str s), .sl 7 (pasD kids)]
def pasD : List Pa → List (List D)
  | [] => []
  | p :: r => paD p :: pasD r
end
mutual
def exD : Ex → List D
  | .mk k a b nm arg n s op A B pats kids => [.lit (.int .i64 k), .lit (.int .i64 a), .lit (.int .i64 b), .lit (str nm), .lit (str arg), .lit (.int .i64 n), .lit (str s), .lit (.int .i64 op),
      .lit (.int .i64 A.kind), .lit (.int .i64 A.num), .sl 3 (tysD A.kids), .lit (.int .i64 B.kind), .lit (.int .i64 B.num), .sl 3 (tysD B.kids), .sl 7 (pasD pats), .sl 16 (exsD kids)]
def exsD : List Ex → List (List D)
  | [] => []
  | e :: r => exD e :: exsD r
end
namespace Pa
def kind : Pa → Int | mk k _ _ _ _ _ _ => k
def nm : Pa → List UInt8 | mk _ _ _ x _ _ _ => x
def n : Pa → Int | mk _ _ _ _ x _ _ => x
def s : Pa → List UInt8 | mk _ _ _ _ _ x _ => x
def kids : Pa → List Pa | mk _ _ _ _ _ _ x => x
end Pa
namespace Ex
def kind : Ex → Int | mk k _ _ _ _ _ _ _ _ _ _ _ => k
def nm : Ex → List UInt8 | mk _ _ _ x _ _ _ _ _ _ _ _ => x
def arg : Ex → List UInt8 | mk _ _ _ _ x _ _ _ _ _ _ _ => x
def n : Ex → Int | mk _ _ _ _ _ x _ _ _ _ _ _ => x
def s : Ex → List UInt8 | mk _ _ _ _ _ _ x _ _ _ _ _ => x
def op : Ex → Int | mk _ _ _ _ _ _ _ x _ _ _ _ => x
def A : Ex → Ty | mk _ _ _ _ _ _ _ _ x _ _ _ => x
def B : Ex → Ty | mk _ _ _ _ _ _ _ _ _ x _ _ => x
def pats : Ex → List Pa | mk _ _ _ _ _ _ _ _ _ _ x _ => x
def kids : Ex → List Ex | mk _ _ _ _ _ _ _ _ _ _ _ x => x
end Ex
def paX (p : Pa) : List D := [.lit (.int .i64 p.kind), .lit (.int .i64 p.fr), .lit (.int .i64 p.to), .lit (str p.nm), .lit (.int .i64 p.n), .lit (str p.s), .sl 7 (pasD p.kids)]
def exX (e : Ex) : List D := [.lit (.int .i64 e.kind), .lit (.int .i64 e.fr), .lit (.int .i64 e.to), .lit (str e.nm), .lit (str e.arg), .lit (.int .i64 e.n), .lit (str e.s), .lit (.int .i64 e.op),
      .lit (.int .i64 e.A.kind), .lit (.int .i64 e.A.num), .sl 3 (tysD e.A.kids), .lit (.int .i64 e.B.kind), .lit (.int .i64 e.B.num), .sl 3 (tysD e.B.kids), .sl 7 (pasD e.pats), .sl 16 (exsD e.kids)]
theorem paD_eq (p : Pa) : paD p = paX p := by cases p; rw [paD]; rfl
theorem exD_eq (e : Ex) : exD e = exX e := by cases e; rw [exD]; rfl
theorem pasD_map : ∀ l : List Pa, pasD l = l.map paX
  | [] => by rw [pasD]; rfl
  | p :: r => by rw [pasD, pasD_map r, paD_eq]; rfl
theorem exsD_map : ∀ l : List Ex, exsD l = l.map exX
  | [] => by rw [exsD]; rfl
  | p :: r => by rw [exsD, exsD_map r, exD_eq]; rfl
theorem exsD_len (l : List Ex) : (exsD l).length = l.length := by rw [exsD_map]; simp
theorem exsD_last {l : List Ex} {x : Ex} (h : l.getLast? = some x) {n : Int} (hn : n = ((exsD l).length : Int) - 1) : (exsD l)[n.toNat]? = some (exX x) := by
  subst hn; rw [exsD_len, exsD_map, List.getElem?_map]; rw [List.getLast?_eq_getElem?] at h; rw [show ((l.length : Int) - 1).toNat = l.length - 1 by omega, h]; rfl
abbrev exJ : List D := [.any, .any, .any, .any, .any, .any, .any, .any, .any, .any, .any, .any, .any, .any, .any, .any]
abbrev paJ : List D := [.any, .any, .any, .any, .any, .any, .any]
def exE (e : Ex) : List E := [.agg (exX e)]
def Ex.put (e : Ex) (a b : Int) : Ex := .mk e.kind a b e.nm e.arg e.n e.s e.op e.A e.B e.pats e.kids
/-- what an error of a leaf leaves -/
abbrev exB (fr : Int) : Ex := .mk 0 fr 0 [] [] 0 [] 0 noTy noTy [] []

theorem eEnds (e l : Ex) (fr : Int) (hl : e.kids.getLast? = some l) (hk : e.kids.length ≤ 1000000000) : Con Try.prog 43 [.agg (exX e), .c (.lit (.int .i64 fr))] [] (.agg (exX (e.put fr l.to))) [] := by
  have h0 := exsD_len e.kids; have h1 : 0 < e.kids.length := by
    rcases h : e.kids with _ | ⟨a, r⟩
    · rw [h] at hl; cases hl
    · simp
  refine con_intro rfl rfl (by kernel_rfl) (by kernel_rfl) ?_; refine js ?_; refine u rfl rfl (r_boxA (x := 2002) rfl rfl rfl rfl) ?_; refine u rfl rfl (r_alloc (x := 2004) (zs := zx) dx rfl rfl rfl (by kernel_rfl) kx) ?_; refine jd ?_; refine w5 1 2 4 2002 2004 ?_; refine js ?_; refine u rfl rfl mv ?_; refine u rfl rfl (fA 15 1) ?_; refine u rfl rfl ld ?_; refine u rfl rfl (fA 15 1) ?_; refine u rfl rfl ld ?_; refine u rfl rfl ln0 ?_; refine u rfl rfl (r_subI rfl rfl rfl rfl (by omega)) ?_; refine u rfl rfl (r_indexAddr (e := 31) (sz := 16) rfl rfl (by kernel_rfl) rfl rfl (by omega) (exsD_last hl rfl)) ?_; refine u rfl rfl (fE 1 2) ?_; refine u rfl rfl (fE 1 1) ?_; refine u rfl rfl lE ?_; refine u rfl rfl (r_build (zs := [.int .i64 0, .int .i64 0]) (qs := [(0, 1), (1, 1)]) [.lit (.int .i64 0), .lit (.int .i64 0)] rfl rfl (by kernel_rfl) (by kernel_rfl) ⟨.refl _, .refl _, trivial⟩ rfl rfl) ?_
  refine u rfl rfl (fA 1 2) ?_; refine u rfl rfl sA ?_; refine jd ?_; refine w4 2 4 2002 2004 ?_; refine js ?_; refine u rfl rfl (lA 16) ?_; refine u rfl rfl sA ?_; refine jd ?_; refine w2 4 2004 ?_; refine J_ret ?_; exact ⟨.inl rfl, _, rfl, .refl _, trivial⟩
theorem eTwoOk (k op : Int) (a b : Ex) : Con Try.prog 48 [.c (.lit (.int .i64 k)), .c (.lit (.int .i64 op)), .agg (exX a), .agg (exX b)] [] (.agg (exX (eTwo k op a b))) [] := by
  refine con_intro rfl rfl (by kernel_rfl) (by kernel_rfl) ?_; refine js ?_; refine u rfl rfl (r_boxA (x := 2006) rfl rfl rfl rfl) ?_; refine u rfl rfl (r_boxA (x := 2007) rfl rfl rfl rfl) ?_; refine u rfl rfl (r_alloc (x := 2008) (zs := zx) dx rfl rfl rfl (by kernel_rfl) kx) ?_; refine jd ?_; refine w8 0 1 6 7 8 2006 2007 2008 ?_; refine js ?_; refine u rfl rfl mv ?_; refine u rfl rfl mv ?_; refine u rfl rfl (fA 1 2) ?_; refine u rfl rfl (fA 0 1) ?_; refine u rfl rfl ld ?_; refine u rfl rfl (fA 1 2) ?_; refine u rfl rfl (fA 1 1) ?_; refine u rfl rfl ld ?_; refine u rfl rfl (r_build (zs := [.int .i64 0, .int .i64 0]) (qs := [(0, 1), (1, 1)]) [.lit (.int .i64 0), .lit (.int .i64 0)] rfl rfl (by kernel_rfl) (by kernel_rfl) ⟨.refl _, .refl _, trivial⟩ rfl rfl) ?_; refine u rfl rfl (lA 16) ?_; refine u rfl rfl (lA 16) ?_; refine u rfl rfl (r_buildSlice (e := 31) (sz := 16) (zs := zx) (exsD [a, b]) rfl rfl (by kernel_rfl) (by kernel_rfl) rfl rfl (by simp only [exsD, exD_eq]; rfl) (by simp only [exsD, exD_eq]; rfl)) ?_
  refine u rfl rfl (r_build (zs := zx) (qs := [(0, 1), (1, 2), (3, 1), (4, 1), (5, 1), (6, 1), (7, 1), (8, 3), (11, 3), (14, 1), (15, 1)]) dx rfl rfl (by kernel_rfl) (by kernel_rfl) kx rfl rfl) ?_; refine u rfl rfl sA ?_; refine jd ?_; refine w2 8 2008 ?_; refine J_ret ?_; exact ⟨.inl rfl, _, rfl, .refl _, trivial⟩
theorem eTwoJ (k op : Int) (a : Ex) : Con Try.prog 48 [.c (.lit (.int .i64 k)), .c (.lit (.int .i64 op)), .agg (exX a), .agg exJ] [] (.agg exJ) [] := by
  refine con_intro rfl rfl (by kernel_rfl) (by kernel_rfl) ?_; refine js ?_; refine u rfl rfl (r_boxA (x := 2006) rfl rfl rfl rfl) ?_; refine u rfl rfl (r_boxA (x := 2007) rfl rfl rfl rfl) ?_; refine u rfl rfl (r_alloc (x := 2008) (zs := zx) dx rfl rfl rfl (by kernel_rfl) kx) ?_; refine jd ?_; refine w8 0 1 6 7 8 2006 2007 2008 ?_; refine js ?_; refine u rfl rfl mv ?_; refine u rfl rfl mv ?_; refine u rfl rfl (fA 1 2) ?_; refine u rfl rfl (fA 0 1) ?_; refine u rfl rfl ld ?_; refine u rfl rfl (fA 1 2) ?_; refine u rfl rfl (fA 1 1) ?_; refine u rfl rfl ld ?_; refine u rfl rfl (r_build (zs := [.int .i64 0, .int .i64 0]) (qs := [(0, 1), (1, 1)]) [.lit (.int .i64 0), .lit (.int .i64 0)] rfl rfl (by kernel_rfl) (by kernel_rfl) ⟨.refl _, .refl _, trivial⟩ rfl rfl) ?_; refine u rfl rfl (lA 16) ?_; refine u rfl rfl (lA 16) ?_; refine u rfl rfl (r_buildSlice (e := 31) (sz := 16) (zs := zx) ([exX a, exJ]) rfl rfl (by kernel_rfl) (by kernel_rfl) rfl rfl rfl rfl) ?_
  refine u rfl rfl (r_build (zs := zx) (qs := [(0, 1), (1, 2), (3, 1), (4, 1), (5, 1), (6, 1), (7, 1), (8, 3), (11, 3), (14, 1), (15, 1)]) dx rfl rfl (by kernel_rfl) (by kernel_rfl) kx rfl rfl) ?_; refine u rfl rfl sA ?_; refine jd ?_; refine w2 8 2008 ?_; refine J_ret ?_; exact ⟨.inl rfl, _, rfl, .agg ⟨.any _, .any _, .any _, .any _, .any _, .any _, .any _, .any _, .any _, .any _, .any _, .any _, .any _, .any _, .any _, .any _, trivial⟩, trivial⟩
theorem eBeginsB (ts : List Tok) (i : Nat) (hm : ts.length ≤ 1000000000) {b : Bool} (hM : eBegins ts i = b) : Con Try.prog 74 [.ptr 3000 0] [(3000, eRdr ts i)] (.c (.lit (.bool b))) [(3000, eRdr ts i)] := by
  unfold eBegins at hM; refine con_intro rfl rfl (by kernel_rfl) (by kernel_rfl) ?_; refine js ?_; refine u rfl rfl asg ?_; refine jd ?_; refine w3 0 2 3000 ?_; refine js ?_; refine u rfl rfl mv ?_
  rcases h1 : of? ts i 1 with _ | _
  · try simp only [h1, if_true, if_false, Bool.false_eq_true, Bool.true_or, Bool.false_or, Bool.or_true, Bool.or_false] at hM
    refine u rfl rfl (cl (eOfB ts i 1 hm h1)) ?_; refine u rfl rfl mv ?_; refine u rfl rfl mv ?_
    rcases h2 : of? ts i 3 with _ | _
    · try simp only [h2, if_true, if_false, Bool.false_eq_true, Bool.true_or, Bool.false_or, Bool.or_true, Bool.or_false] at hM
      refine u rfl rfl (cl (eOfB ts i 3 hm h2)) ?_; refine u rfl rfl pF ?_; refine u rfl rfl mv ?_; refine u rfl rfl mv ?_
      rcases h3 : of? ts i 4 with _ | _
      · try simp only [h3, if_true, if_false, Bool.false_eq_true, Bool.true_or, Bool.false_or, Bool.or_true, Bool.or_false] at hM
        refine u rfl rfl (cl (eOfB ts i 4 hm h3)) ?_; refine u rfl rfl pF ?_; refine u rfl rfl mv ?_; refine u rfl rfl mv ?_
        rcases h4 : at? ts i 2 [116, 114, 117, 101] with _ | _
        · try simp only [h4, if_true, if_false, Bool.false_eq_true, Bool.true_or, Bool.false_or, Bool.or_true, Bool.or_false] at hM
          refine u rfl rfl (cl (eIsB ts i 2 [116, 114, 117, 101] hm h4)) ?_; refine u rfl rfl pF ?_; refine u rfl rfl mv ?_; refine u rfl rfl mv ?_
          rcases h5 : at? ts i 2 [102, 97, 108, 115, 101] with _ | _
          · try simp only [h5, if_true, if_false, Bool.false_eq_true, Bool.true_or, Bool.false_or, Bool.or_true, Bool.or_false] at hM
            refine u rfl rfl (cl (eIsB ts i 2 [102, 97, 108, 115, 101] hm h5)) ?_; refine u rfl rfl pF ?_; refine u rfl rfl mv ?_; refine u rfl rfl mv ?_
            rcases h6 : at? ts i 5 [40] with _ | _
            · try simp only [h6, if_true, if_false, Bool.false_eq_true, Bool.true_or, Bool.false_or, Bool.or_true, Bool.or_false] at hM
              refine u rfl rfl (cl (eIsB ts i 5 [40] hm h6)) ?_; refine u rfl rfl pF ?_; refine u rfl rfl mv ?_; refine u rfl rfl mv ?_
              rcases h7 : at? ts i 5 [91] with _ | _
              · try simp only [h7, if_true, if_false, Bool.false_eq_true, Bool.true_or, Bool.false_or, Bool.or_true, Bool.or_false] at hM
                refine u rfl rfl (cl (eIsB ts i 5 [91] hm h7)) ?_; refine u rfl rfl pF ?_; refine u rfl rfl asg ?_; refine jd ?_; refine w2 2 3000 ?_; refine J_ret ?_; subst hM; exact ⟨.inl rfl, _, rfl, .refl _, rfl, trivial⟩
              · try simp only [h7, if_true, if_false, Bool.false_eq_true, Bool.true_or, Bool.false_or, Bool.or_true, Bool.or_false] at hM
                have := atl h7; refine u rfl rfl (cl (eIsB ts i 5 [91] hm h7)) ?_; refine u rfl rfl pF ?_; refine u rfl rfl asg ?_; refine jd ?_; refine w2 2 3000 ?_; refine J_ret ?_; subst hM; exact ⟨.inl rfl, _, rfl, .refl _, rfl, trivial⟩
            · try simp only [h6, if_true, if_false, Bool.false_eq_true, Bool.true_or, Bool.false_or, Bool.or_true, Bool.or_false] at hM
              have := atl h6; refine u rfl rfl (cl (eIsB ts i 5 [40] hm h6)) ?_; refine u rfl rfl pF ?_; refine u rfl rfl mv ?_; refine sk ?_; refine sk ?_; refine u rfl rfl pT ?_; refine u rfl rfl asg ?_; refine jd ?_; refine w2 2 3000 ?_; refine J_ret ?_; subst hM; exact ⟨.inl rfl, _, rfl, .refl _, rfl, trivial⟩
          · try simp only [h5, if_true, if_false, Bool.false_eq_true, Bool.true_or, Bool.false_or, Bool.or_true, Bool.or_false] at hM
            have := atl h5; refine u rfl rfl (cl (eIsB ts i 2 [102, 97, 108, 115, 101] hm h5)) ?_; refine u rfl rfl pF ?_; refine u rfl rfl mv ?_; refine sk ?_; refine sk ?_; refine u rfl rfl pT ?_; refine u rfl rfl mv ?_; refine sk ?_; refine sk ?_; refine u rfl rfl pT ?_; refine u rfl rfl asg ?_; refine jd ?_; refine w2 2 3000 ?_; refine J_ret ?_; subst hM; exact ⟨.inl rfl, _, rfl, .refl _, rfl, trivial⟩
        · try simp only [h4, if_true, if_false, Bool.false_eq_true, Bool.true_or, Bool.false_or, Bool.or_true, Bool.or_false] at hM
          have := atl h4; refine u rfl rfl (cl (eIsB ts i 2 [116, 114, 117, 101] hm h4)) ?_; refine u rfl rfl pF ?_; refine u rfl rfl mv ?_; refine sk ?_; refine sk ?_; refine u rfl rfl pT ?_; refine u rfl rfl mv ?_; refine sk ?_; refine sk ?_; refine u rfl rfl pT ?_; refine u rfl rfl mv ?_; refine sk ?_; refine sk ?_; refine u rfl rfl pT ?_; refine u rfl rfl asg ?_; refine jd ?_; refine w2 2 3000 ?_; refine J_ret ?_; subst hM; exact ⟨.inl rfl, _, rfl, .refl _, rfl, trivial⟩
      · try simp only [h3, if_true, if_false, Bool.false_eq_true, Bool.true_or, Bool.false_or, Bool.or_true, Bool.or_false] at hM
        have := ofl h3; refine u rfl rfl (cl (eOfB ts i 4 hm h3)) ?_; refine u rfl rfl pF ?_; refine u rfl rfl mv ?_; refine sk ?_; refine sk ?_; refine u rfl rfl pT ?_; refine u rfl rfl mv ?_; refine sk ?_; refine sk ?_; refine u rfl rfl pT ?_; refine u rfl rfl mv ?_; refine sk ?_; refine sk ?_; refine u rfl rfl pT ?_; refine u rfl rfl mv ?_; refine sk ?_; refine sk ?_; refine u rfl rfl pT ?_; refine u rfl rfl asg ?_; refine jd ?_; refine w2 2 3000 ?_; refine J_ret ?_; subst hM; exact ⟨.inl rfl, _, rfl, .refl _, rfl, trivial⟩
    · try simp only [h2, if_true, if_false, Bool.false_eq_true, Bool.true_or, Bool.false_or, Bool.or_true, Bool.or_false] at hM
      have := ofl h2; refine u rfl rfl (cl (eOfB ts i 3 hm h2)) ?_; refine u rfl rfl pF ?_; refine u rfl rfl mv ?_; refine sk ?_; refine sk ?_; refine u rfl rfl pT ?_; refine u rfl rfl mv ?_; refine sk ?_; refine sk ?_; refine u rfl rfl pT ?_; refine u rfl rfl mv ?_; refine sk ?_; refine sk ?_; refine u rfl rfl pT ?_; refine u rfl rfl mv ?_; refine sk ?_; refine sk ?_; refine u rfl rfl pT ?_; refine u rfl rfl mv ?_; refine sk ?_; refine sk ?_; refine u rfl rfl pT ?_; refine u rfl rfl asg ?_; refine jd ?_; refine w2 2 3000 ?_; refine J_ret ?_; subst hM; exact ⟨.inl rfl, _, rfl, .refl _, rfl, trivial⟩
  · try simp only [h1, if_true, if_false, Bool.false_eq_true, Bool.true_or, Bool.false_or, Bool.or_true, Bool.or_false] at hM
    have := ofl h1; refine u rfl rfl (cl (eOfB ts i 1 hm h1)) ?_; refine u rfl rfl mv ?_; refine sk ?_; refine sk ?_; refine u rfl rfl pT ?_; refine u rfl rfl mv ?_; refine sk ?_; refine sk ?_; refine u rfl rfl pT ?_; refine u rfl rfl mv ?_; refine sk ?_; refine sk ?_; refine u rfl rfl pT ?_; refine u rfl rfl mv ?_; refine sk ?_; refine sk ?_; refine u rfl rfl pT ?_; refine u rfl rfl mv ?_; refine sk ?_; refine sk ?_; refine u rfl rfl pT ?_; refine u rfl rfl mv ?_; refine sk ?_; refine sk ?_; refine u rfl rfl pT ?_; refine u rfl rfl asg ?_; refine jd ?_; refine w2 2 3000 ?_; refine J_ret ?_; subst hM; exact ⟨.inl rfl, _, rfl, .refl _, rfl, trivial⟩
theorem eLeafQ (ts : List Tok) (i : Nat) (hm : ts.length ≤ 1000000000) (hi : i ≤ ts.length) {M : QR Ex} (hM : qLeaf ts i = M) : Con Try.prog 76 [.ptr 3000 0] [(3000, eRdr ts i)] (retQ exE [.agg (exX (exB (frE ts i)))] M) [(3000, eRdr ts (posQ M))] := by
  have hl := toks_len (ts := ts); unfold qLeaf at hM; refine con_intro rfl rfl (by kernel_rfl) (by rcases M with _ | ⟨_, _⟩ <;> kernel_rfl) ?_; refine js ?_; refine u rfl rfl (r_alloc (x := 2002) (zs := zx) dx rfl rfl rfl (by kernel_rfl) kx) ?_; refine u rfl rfl asg ?_; refine jd ?_; refine w5 0 2 3 2002 3000 ?_; refine js ?_; refine u rfl rfl mv ?_; refine u rfl rfl (cl (eFrom ts i hm)) ?_; refine u rfl rfl (r_build (zs := [.int .i64 0, .int .i64 0]) (qs := [(0, 1), (1, 1)]) [.lit (.int .i64 0), .lit (.int .i64 0)] rfl rfl (by kernel_rfl) (by kernel_rfl) ⟨.refl _, .refl _, trivial⟩ rfl rfl) ?_; refine u rfl rfl (r_build (zs := zx) (qs := [(0, 1), (1, 2), (3, 1), (4, 1), (5, 1), (6, 1), (7, 1), (8, 3), (11, 3), (14, 1), (15, 1)]) dx rfl rfl (by kernel_rfl) (by kernel_rfl) kx rfl rfl) ?_; refine u rfl rfl (r_alloc (x := 2004) (zs := zx) dx rfl rfl rfl (by kernel_rfl) kx) ?_; refine u rfl rfl sA ?_
  refine jd ?_; refine w7 0 2 3 4 2002 2004 3000 ?_; refine J_seq ?_; refine J_block ?_; refine js ?_; refine u rfl rfl mv ?_
  rcases h8 : of? ts i 1 with _ | _
  · try simp only [h8, if_true, if_false, Bool.false_eq_true] at hM
    refine u rfl rfl (cl (eOfB ts i 1 hm h8)) ?_; refine u rfl rfl asg ?_; refine jd ?_; refine w8 0 2 3 4 10 2002 2004 3000 ?_; refine J_condF rfl ?_; refine js ?_; refine u rfl rfl mv ?_
    rcases h9 : of? ts i 3 with _ | _
    · try simp only [h9, if_true, if_false, Bool.false_eq_true] at hM
      refine u rfl rfl (cl (eOfB ts i 3 hm h9)) ?_; refine u rfl rfl asg ?_; refine jd ?_; refine w8 0 2 3 4 26 2002 2004 3000 ?_; refine J_condF rfl ?_; refine js ?_; refine u rfl rfl mv ?_
      rcases h10 : of? ts i 4 with _ | _
      · try simp only [h10, if_true, if_false, Bool.false_eq_true] at hM
        refine u rfl rfl (cl (eOfB ts i 4 hm h10)) ?_; refine u rfl rfl asg ?_; refine jd ?_; refine w8 0 2 3 4 42 2002 2004 3000 ?_; refine J_condF rfl ?_; refine js ?_; refine u rfl rfl mv ?_
        rcases h11 : at? ts i 2 [116, 114, 117, 101] with _ | _
        · try simp only [h11, if_true, if_false, Bool.false_eq_true] at hM
          refine u rfl rfl (cl (eIsB ts i 2 [116, 114, 117, 101] hm h11)) ?_; refine u rfl rfl asg ?_; refine jd ?_; refine w8 0 2 3 4 58 2002 2004 3000 ?_; refine J_condF rfl ?_; refine js ?_; refine u rfl rfl mv ?_
          rcases h12 : at? ts i 2 [102, 97, 108, 115, 101] with _ | _
          · try simp only [h12, if_true, if_false, Bool.false_eq_true] at hM
            refine u rfl rfl (cl (eIsB ts i 2 [102, 97, 108, 115, 101] hm h12)) ?_; refine u rfl rfl asg ?_; refine jd ?_; refine w8 0 2 3 4 63 2002 2004 3000 ?_; refine J_condF rfl ?_; refine js ?_; refine u rfl rfl (lA 16) ?_; refine u rfl rfl sA ?_; refine u rfl rfl asg ?_; refine jd ?_; refine w7 0 2 3 4 2002 2004 3000 ?_; refine J_ret ?_; subst hM; exact ⟨.inl rfl, _, rfl, .refl _, rfl, trivial⟩
          · try simp only [h12, if_true, if_false, Bool.false_eq_true] at hM
            have := atl h12; refine u rfl rfl (cl (eIsB ts i 2 [102, 97, 108, 115, 101] hm h12)) ?_; refine u rfl rfl asg ?_; refine jd ?_; refine w8 0 2 3 4 63 2002 2004 3000 ?_; refine J_condT rfl ?_; refine JR.start ?_; refine u rfl rfl (fA 0 1) ?_; refine u rfl rfl sT ?_; refine jd ?_; refine w7 0 2 3 4 2002 2004 3000 ?_; refine js ?_; refine u rfl rfl mv ?_; refine u rfl rfl nC ?_; refine u rfl rfl (fA 1 1) ?_; refine u rfl rfl ld ?_; refine u rfl rfl (r_addI rfl rfl rfl rfl (by omega)) ?_; refine u rfl rfl nC ?_; refine u rfl rfl (fA 1 1) ?_; refine u rfl rfl sT ?_; refine jd ?_; refine w7 0 2 3 4 2002 2004 3000 ?_; refine js ?_; refine u rfl rfl mv ?_; refine u rfl rfl (cl (eBehind ts (i + 1) hm (by omega) (by omega))) ?_; refine u rfl rfl (fA 1 2) ?_; refine u rfl rfl (fA 1 1) ?_; refine u rfl rfl sT ?_; refine jd ?_; refine w6 2 3 4 2002 2004 3000 ?_; refine js ?_; refine u rfl rfl (lA 16) ?_
            refine u rfl rfl sA ?_; refine u rfl rfl asg ?_; refine jd ?_; refine w4 2 3 2002 3000 ?_; refine J_ret ?_; subst hM; exact ⟨.inl rfl, _, rfl, .refl _, rfl, trivial⟩
        · try simp only [h11, if_true, if_false, Bool.false_eq_true] at hM
          have := atl h11; refine u rfl rfl (cl (eIsB ts i 2 [116, 114, 117, 101] hm h11)) ?_; refine u rfl rfl asg ?_; refine jd ?_; refine w8 0 2 3 4 58 2002 2004 3000 ?_; refine J_condT rfl ?_; refine JR.start ?_; refine u rfl rfl (fA 0 1) ?_; refine u rfl rfl sT ?_; refine u rfl rfl (fA 5 1) ?_; refine u rfl rfl sT ?_; refine jd ?_; refine w7 0 2 3 4 2002 2004 3000 ?_; refine js ?_; refine u rfl rfl mv ?_; refine u rfl rfl nC ?_; refine u rfl rfl (fA 1 1) ?_; refine u rfl rfl ld ?_; refine u rfl rfl (r_addI rfl rfl rfl rfl (by omega)) ?_; refine u rfl rfl nC ?_; refine u rfl rfl (fA 1 1) ?_; refine u rfl rfl sT ?_; refine jd ?_; refine w7 0 2 3 4 2002 2004 3000 ?_; refine js ?_; refine u rfl rfl mv ?_; refine u rfl rfl (cl (eBehind ts (i + 1) hm (by omega) (by omega))) ?_; refine u rfl rfl (fA 1 2) ?_; refine u rfl rfl (fA 1 1) ?_; refine u rfl rfl sT ?_; refine jd ?_; refine w6 2 3 4 2002 2004 3000 ?_
          refine js ?_; refine u rfl rfl (lA 16) ?_; refine u rfl rfl sA ?_; refine u rfl rfl asg ?_; refine jd ?_; refine w4 2 3 2002 3000 ?_; refine J_ret ?_; subst hM; exact ⟨.inl rfl, _, rfl, .refl _, rfl, trivial⟩
      · try simp only [h10, if_true, if_false, Bool.false_eq_true] at hM
        have := ofl h10; refine u rfl rfl (cl (eOfB ts i 4 hm h10)) ?_; refine u rfl rfl asg ?_; refine jd ?_; refine w8 0 2 3 4 42 2002 2004 3000 ?_; refine J_condT rfl ?_; obtain ⟨x, hx⟩ := tok_at (ts := ts) (i := i) (by omega); refine JR.start ?_; refine u rfl rfl mv ?_; refine u rfl rfl nC ?_; refine u rfl rfl (fA 0 1) ?_; refine u rfl rfl ld ?_; refine u rfl rfl mv ?_; refine u rfl rfl nC ?_; refine u rfl rfl (fA 1 1) ?_; refine u rfl rfl ld ?_; refine u rfl rfl (r_indexAddr (e := 48) (sz := 5) rfl rfl (by kernel_rfl) rfl rfl (by omega) (toksD_get hx)) ?_; refine u rfl rfl (fE 3 1) ?_; refine u rfl rfl lE ?_; refine u rfl rfl (fA 0 1) ?_; refine u rfl rfl sT ?_; refine u rfl rfl (fA 6 1) ?_; refine u rfl rfl sT ?_; refine jD [0, 1, 3, 7, 0, 16, 48, 112, 255, 511, 1023, 0, 2048, 8191, 16383] ?_; refine w7 0 2 3 4 2002 2004 3000 ?_; refine js ?_; refine u rfl rfl mv ?_; refine u rfl rfl nC ?_
        refine u rfl rfl (fA 1 1) ?_; refine u rfl rfl ld ?_; refine u rfl rfl (r_addI rfl rfl rfl rfl (by omega)) ?_; refine u rfl rfl nC ?_; refine u rfl rfl (fA 1 1) ?_; refine u rfl rfl sT ?_; refine jd ?_; refine w7 0 2 3 4 2002 2004 3000 ?_; refine js ?_; refine u rfl rfl mv ?_; refine u rfl rfl (cl (eBehind ts (i + 1) hm (by omega) (by omega))) ?_; refine u rfl rfl (fA 1 2) ?_; refine u rfl rfl (fA 1 1) ?_; refine u rfl rfl sT ?_; refine jd ?_; refine w6 2 3 4 2002 2004 3000 ?_; refine js ?_; refine u rfl rfl (lA 16) ?_; refine u rfl rfl sA ?_; refine u rfl rfl asg ?_; refine jd ?_; refine w4 2 3 2002 3000 ?_; refine J_ret ?_; subst hM; exact ⟨.inl rfl, _, rfl, .of (by rw [eLeaf, strE_at hx]; rfl), rfl, trivial⟩
    · try simp only [h9, if_true, if_false, Bool.false_eq_true] at hM
      have := ofl h9; refine u rfl rfl (cl (eOfB ts i 3 hm h9)) ?_; refine u rfl rfl asg ?_; refine jd ?_; refine w8 0 2 3 4 26 2002 2004 3000 ?_; refine J_condT rfl ?_; obtain ⟨x, hx⟩ := tok_at (ts := ts) (i := i) (by omega); refine JR.start ?_; refine u rfl rfl mv ?_; refine u rfl rfl nC ?_; refine u rfl rfl (fA 0 1) ?_; refine u rfl rfl ld ?_; refine u rfl rfl mv ?_; refine u rfl rfl nC ?_; refine u rfl rfl (fA 1 1) ?_; refine u rfl rfl ld ?_; refine u rfl rfl (r_indexAddr (e := 48) (sz := 5) rfl rfl (by kernel_rfl) rfl rfl (by omega) (toksD_get hx)) ?_; refine u rfl rfl (fE 4 1) ?_; refine u rfl rfl lE ?_; refine u rfl rfl (fA 0 1) ?_; refine u rfl rfl sT ?_; refine u rfl rfl (fA 5 1) ?_; refine u rfl rfl sT ?_; refine jD [0, 1, 3, 7, 0, 16, 48, 112, 255, 511, 1023, 0, 2048, 8191, 16383] ?_; refine w7 0 2 3 4 2002 2004 3000 ?_; refine js ?_; refine u rfl rfl mv ?_; refine u rfl rfl nC ?_
      refine u rfl rfl (fA 1 1) ?_; refine u rfl rfl ld ?_; refine u rfl rfl (r_addI rfl rfl rfl rfl (by omega)) ?_; refine u rfl rfl nC ?_; refine u rfl rfl (fA 1 1) ?_; refine u rfl rfl sT ?_; refine jd ?_; refine w7 0 2 3 4 2002 2004 3000 ?_; refine js ?_; refine u rfl rfl mv ?_; refine u rfl rfl (cl (eBehind ts (i + 1) hm (by omega) (by omega))) ?_; refine u rfl rfl (fA 1 2) ?_; refine u rfl rfl (fA 1 1) ?_; refine u rfl rfl sT ?_; refine jd ?_; refine w6 2 3 4 2002 2004 3000 ?_; refine js ?_; refine u rfl rfl (lA 16) ?_; refine u rfl rfl sA ?_; refine u rfl rfl asg ?_; refine jd ?_; refine w4 2 3 2002 3000 ?_; refine J_ret ?_; subst hM; exact ⟨.inl rfl, _, rfl, .of (by rw [eLeaf, nbrE_at hx]; rfl), rfl, trivial⟩
  · try simp only [h8, if_true, if_false, Bool.false_eq_true] at hM
    have := ofl h8; refine u rfl rfl (cl (eOfB ts i 1 hm h8)) ?_; refine u rfl rfl asg ?_; refine jd ?_; refine w8 0 2 3 4 10 2002 2004 3000 ?_; refine J_condT rfl ?_; obtain ⟨x, hx⟩ := tok_at (ts := ts) (i := i) (by omega); refine JR.start ?_; refine u rfl rfl mv ?_; refine u rfl rfl nC ?_; refine u rfl rfl (fA 0 1) ?_; refine u rfl rfl ld ?_; refine u rfl rfl mv ?_; refine u rfl rfl nC ?_; refine u rfl rfl (fA 1 1) ?_; refine u rfl rfl ld ?_; refine u rfl rfl (r_indexAddr (e := 48) (sz := 5) rfl rfl (by kernel_rfl) rfl rfl (by omega) (toksD_get hx)) ?_; refine u rfl rfl (fE 3 1) ?_; refine u rfl rfl lE ?_; refine u rfl rfl (fA 0 1) ?_; refine u rfl rfl sT ?_; refine u rfl rfl (fA 3 1) ?_; refine u rfl rfl sT ?_; refine jD [0, 1, 3, 7, 0, 16, 48, 112, 255, 511, 1023, 0, 2048, 8191, 16383] ?_; refine w7 0 2 3 4 2002 2004 3000 ?_; refine js ?_; refine u rfl rfl mv ?_; refine u rfl rfl nC ?_
    refine u rfl rfl (fA 1 1) ?_; refine u rfl rfl ld ?_; refine u rfl rfl (r_addI rfl rfl rfl rfl (by omega)) ?_; refine u rfl rfl nC ?_; refine u rfl rfl (fA 1 1) ?_; refine u rfl rfl sT ?_; refine jd ?_; refine w7 0 2 3 4 2002 2004 3000 ?_; refine js ?_; refine u rfl rfl mv ?_; refine u rfl rfl (cl (eBehind ts (i + 1) hm (by omega) (by omega))) ?_; refine u rfl rfl (fA 1 2) ?_; refine u rfl rfl (fA 1 1) ?_; refine u rfl rfl sT ?_; refine jd ?_; refine w6 2 3 4 2002 2004 3000 ?_; refine js ?_; refine u rfl rfl (lA 16) ?_; refine u rfl rfl sA ?_; refine u rfl rfl asg ?_; refine jd ?_; refine w4 2 3 2002 3000 ?_; refine J_ret ?_; subst hM; exact ⟨.inl rfl, _, rfl, .of (by rw [eLeaf, strE_at hx]; rfl), rfl, trivial⟩

end Go.Proofs.Ytlagglkpbnbmeaa
