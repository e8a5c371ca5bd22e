/- The walk of the law NoteExact. -/
import Derived.Test.YtoadmjnaakbljaaDoorNt3
import Derived.Test.YtoadmjnaakbljaaDoorNt4
import Derived.Test.YtoadmjnaakbljaaDoorRr2
import Derived.Test.YtoadmjnaakbljaaDoorLexQ
import Derived.Test.YtoadmjnaakbljaaDoorPU
namespace Go.Proofs.YtoadmjnaakbljaaDoor
open Go Go.RowKit
set_option maxRecDepth 100000
set_option linter.unusedVariables false

theorem cast_b {d : Nat} {b b' : Bool} (h : b = b') : [(d, F.c (.lit (.bool b)))] = [(d, F.c (.lit (.bool b')))] := by rw [h]
theorem kSameS (t : Ty) (h : t.size ≤ 1000000000) : Con Tryd.prog 14 [.agg (tyE t), .agg (tyE t)] [] (.c (.lit (.bool true))) [] := by
  have c := kSame t.size t t h (Nat.le_refl _)
  rw [mSame_refl] at c
  exact c
def scTs (bs : List UInt8) : List Tok := match mScan bs with | .ok ts => ts | .error _ => []
def scP (bs : List UInt8) : Int := match mScan bs with | .ok _ => 0 | .error p => (p : Int)
def scE (bs : List UInt8) : Int := match mScan bs with | .ok _ => 0 | .error _ => 3
theorem scTs_len (bs : List UInt8) : (scTs bs).length ≤ 16384 := by
  unfold scTs
  cases h : mScan bs with
  | ok ts => exact mScan_len h
  | error p => exact Nat.zero_le _
theorem kScan (bs : List UInt8) (hm : bs.length ≤ 140737488351232) : Con Tryd.prog 15 [.c (.sl 1 (bcells bs))] [] (.tup [.c (toksD (scTs bs)), .c (.lit (.int .i64 (scP bs))), .c (.lit (.int .i64 (scE bs)))]) [] := by
  have c := lexScan_con bs hm
  unfold scTs scP scE
  cases h : mScan bs with
  | ok ts => rw [h] at c; exact c
  | error p => rw [h] at c; exact c
theorem kRead (ts : List Tok) (i : Int) (hm : ts.length ≤ 1000000000) : Con Tryd.prog 16 [.c (toksD ts), .c (.lit (.int .i64 i))] [] (.tup [.agg (tyE (mRead ts i).1), .c (.lit (.int .i64 (mRead ts i).2.1)), .c (.lit (.int .i64 (mRead ts i).2.2))]) [] := by
  have c := nRead_any ts i hm
  rw [readD, tyD_eq] at c
  exact c
theorem kRefRead (ts : List Tok) (i : Int) (hm : ts.length ≤ 1000000000) : Con Tryd.prog 17 [.c (toksD ts), .c (.lit (.int .i64 i))] [] (.tup [.agg (tyE (mRead ts i).1), .c (.lit (.int .i64 (mRead ts i).2.1)), .c (.lit (.int .i64 (mRead ts i).2.2))]) [] := by
  have c := rRead_any ts i hm
  rw [readD, tyD_eq] at c
  exact c
theorem mLists_size : ∀ (l : List Tok) (t : Ty), (mLists t l).1.size + (mLists t l).2.length ≤ t.size + l.length
  | [], t => by rw [mLists]; exact Nat.le_refl _
  | x :: r, t => by
    rw [mLists]
    split
    · have := mLists_size r (.one 8 t)
      simp only [Ty.size, Ty.sizes, List.length_cons] at this ⊢
      omega
    · exact Nat.le_refl _
/-- a type is no greater than the tokens that tell it -/
def SzOK (l : List Tok) (x : PR Ty) : Prop := match x with
  | .error _ => True
  | .ok (t, r) => t.size + r.length ≤ l.length
theorem mAtom_sz {typ : List Tok → PR Ty} (ht : ∀ l, SzOK l (typ l)) (l : List Tok) : SzOK l (mAtom typ l) := by
  unfold mAtom
  have leaf : ∀ {k : Nat} {s : List UInt8} {j : Int}, hit k s l = true → SzOK l (.ok (.leaf j, l.tail)) := fun h => by
    have := hit_len h
    show (1 + 0) + _ ≤ _
    omega
  by_cases h1 : hit 2 tkInt l = true
  · rw [if_pos h1]; exact leaf h1
  rw [if_neg h1]
  by_cases h2 : hit 2 tkBool l = true
  · rw [if_pos h2]; exact leaf h2
  rw [if_neg h2]
  by_cases h3 : hit 2 tkString l = true
  · rw [if_pos h3]; exact leaf h3
  rw [if_neg h3]
  by_cases h4 : hit 2 tkUnit l = true
  · rw [if_pos h4]; exact leaf h4
  rw [if_neg h4]
  by_cases h5 : hit 5 [63] l = true
  · rw [if_pos h5]; exact leaf h5
  rw [if_neg h5]
  by_cases h6 : hit 5 [40] l = true
  · rw [if_pos h6]
    have h := ht l.tail
    have hl := hit_len h6
    cases hx : typ l.tail with
    | error e => trivial
    | ok p =>
      rw [hx] at h
      obtain ⟨t, r⟩ := p
      show SzOK l (if hit 5 [41] r = true then .ok (t, r.tail) else .error r.length)
      by_cases h7 : hit 5 [41] r = true
      · rw [if_pos h7]
        have := hit_len h7
        have h' : t.size + r.length ≤ l.tail.length := h
        show t.size + r.tail.length ≤ l.length
        omega
      · rw [if_neg h7]; trivial
  · rw [if_neg h6]; trivial
theorem mPost_sz {typ : List Tok → PR Ty} (ht : ∀ l, SzOK l (typ l)) (l : List Tok) : SzOK l (mPost typ l) := by
  unfold mPost
  have h := mAtom_sz ht l
  cases hx : mAtom typ l with
  | error e => trivial
  | ok p =>
    rw [hx] at h
    obtain ⟨t, r⟩ := p
    have hs := mLists_size r t
    have h' : t.size + r.length ≤ l.length := h
    show (mLists t r).1.size + (mLists t r).2.length ≤ l.length
    omega
theorem two_sz {a b : Ty} {k : Int} {l r r' : List Tok} {q : Nat} {s : List UInt8} (h1 : a.size + r.length ≤ l.length) (hh : hit q s r = true) (h2 : b.size + r'.length ≤ r.tail.length) : (Ty.two k a b).size + r'.length ≤ l.length := by
  have := hit_len hh
  simp only [Ty.size, Ty.sizes]
  omega
theorem mProd_sz {typ : List Tok → PR Ty} (ht : ∀ l, SzOK l (typ l)) (l : List Tok) : SzOK l (mProd typ l) := by
  unfold mProd
  have h := mPost_sz ht l
  cases hx : mPost typ l with
  | error e => trivial
  | ok p =>
    rw [hx] at h
    obtain ⟨a, r⟩ := p
    show SzOK l (if hit 5 [42] r = true then match mPost typ r.tail with
      | .error e => .error e
      | .ok (b, r') => .ok (.two 7 a b, r') else .ok (a, r))
    by_cases h2 : hit 5 [42] r = true
    · rw [if_pos h2]
      have h3 := mPost_sz ht r.tail
      cases hy : mPost typ r.tail with
      | error e => trivial
      | ok q => rw [hy] at h3; exact two_sz h h2 h3
    · rw [if_neg h2]; exact h
theorem mTypF_sz : ∀ (f : Nat) (l : List Tok), SzOK l (mTypF f l)
  | 0, _ => trivial
  | f + 1, l => by
    rw [mTypF]
    have h := mProd_sz (mTypF_sz f) l
    cases hx : mProd (mTypF f) l with
    | error e => trivial
    | ok p =>
      rw [hx] at h
      obtain ⟨a, r⟩ := p
      show SzOK l (if hit 5 [45, 62] r = true then match mTypF f r.tail with
        | .error e => .error e
        | .ok (b, r') => .ok (.two 9 a b, r') else .ok (a, r))
      by_cases h2 : hit 5 [45, 62] r = true
      · rw [if_pos h2]
        have h3 := mTypF_sz f r.tail
        cases hy : mTypF f r.tail with
        | error e => trivial
        | ok q => rw [hy] at h3; exact two_sz h h2 h3
      · rw [if_neg h2]; exact h
theorem mRead_size (ts : List Tok) (i : Int) : (mRead ts i).1.size ≤ ts.length + 1 := by
  have one : ∀ k, (Ty.leaf k).size = 1 := fun k => rfl
  rw [mRead]
  split
  · show (Ty.leaf 0).size ≤ _
    rw [one]; omega
  · have h := mTypF_sz ((ts.drop i.toNat).length + 1) (ts.drop i.toNat)
    unfold mTyp
    cases hx : mTypF ((ts.drop i.toNat).length + 1) (ts.drop i.toNat) with
    | error e =>
      show (Ty.leaf 0).size ≤ _
      rw [one]; omega
    | ok p =>
      rw [hx] at h
      obtain ⟨t, r⟩ := p
      have h' : t.size + r.length ≤ (ts.drop i.toNat).length := h
      rw [List.length_drop] at h'
      show t.size ≤ _
      omega

theorem lExact (t : Ty) (bs : List UInt8) (hbs : bs.length ≤ 9223372036854775807) (i : Int) (hi : I64 i) : Con Tryd.prog 3 [.agg (tyE t), .c (.sl 1 (bcells bs)), .c (.lit (.int .i64 i))] [] (.c (.lit (.bool true))) [] := by
  have hH := kHeavyE [t] (by simp)
  have hbl := bcells_len bs
  have hts := scTs_len bs
  have hrs := mRead_size (scTs bs) i
  refine con_intro rfl rfl (by kernel_rfl) (by kernel_rfl) ?_
  refine J_seq ?_
  refine JR.start ?_
  refine JR.run rfl rfl (r_boxA (x := 2003) rfl rfl rfl rfl) ?_
  refine JR.run rfl rfl (r_assign rfl rfl rfl trivial) ?_
  refine JR.done [] (by kernel_rfl) rfl (by kernel_rfl) ?_
  refine J_weak [(1, _), (2, _), (3, _), (6, _), (2003, _)] ⟨rfl, rfl, rfl, rfl, rfl, trivial⟩ ?_
  refine J_seq ?_
  refine J_seq ?_
  refine JR.start ?_
  refine JR.run rfl rfl (r_loadA (m := 3) (us := _) rfl rfl (by kernel_rfl) rfl rfl rfl rfl) ?_
  refine JR.run rfl rfl (r_buildSlice (e := 24) (sz := 3) (zs := [.int .i64 0, .int .i64 0, .slice none 0 0]) ([tyE t]) rfl rfl (by kernel_rfl) (by kernel_rfl) rfl rfl rfl rfl) ?_
  refine JR.runC rfl rfl (r_call (hH) rfl rfl rfl trivial (by kernel_rfl)) rfl ?_ ?_
  · intro h21
    refine JR.run rfl rfl (r_move rfl rfl rfl trivial) ?_
    refine JR.skip rfl rfl ?_
    refine JR.skip rfl rfl ?_
    refine JR.skip rfl rfl ?_
    refine JR.run rfl rfl (r_pickT rfl rfl rfl rfl trivial) ?_
    refine JR.done [] (by kernel_rfl) rfl (by kernel_rfl) ?_
    refine J_weak [(1, _), (2, _), (3, _), (6, _), (26, _), (2003, _)] ⟨rfl, rfl, rfl, rfl, rfl, rfl, trivial⟩ ?_
    refine J_condT rfl ?_
    refine J_seq ?_
    refine JR.start ?_
    refine JR.run rfl rfl (r_assign rfl rfl rfl trivial) ?_
    refine JR.done [] (by kernel_rfl) rfl (by kernel_rfl) ?_
    refine J_weak [(1, _), (2, _), (3, _), (6, _), (2003, _)] ⟨rfl, rfl, rfl, rfl, rfl, trivial⟩ ?_
    refine J_ret ?_
    exact ⟨.inl rfl, _, rfl, .refl _, trivial⟩
  · intro h21
    have hl1 := mCnt_le t 0
    replace h21 : mCnt t 0 ≤ 600 := Nat.le_of_not_lt (of_decide_eq_false h21)
    have s1 := mCnt_light t 0 h21
    refine JR.run rfl rfl (r_move rfl rfl rfl trivial) ?_
    refine JR.run rfl rfl (r_move rfl rfl rfl trivial) ?_
    refine JR.run rfl rfl (r_len rfl rfl (by kernel_rfl) rfl) ?_
    refine JR.runB rfl rfl (r_gtI rfl rfl rfl rfl) ?_ ?_
    · intro h25
      replace h25 := of_decide_eq_true h25
      refine JR.run rfl rfl (r_pickF rfl rfl rfl rfl trivial) ?_
      refine JR.done [] (by kernel_rfl) rfl (by kernel_rfl) ?_
      refine J_weak [(1, _), (2, _), (3, _), (6, _), (26, _), (2003, _)] ⟨rfl, rfl, rfl, rfl, rfl, rfl, trivial⟩ ?_
      refine J_condT rfl ?_
      refine J_seq ?_
      refine JR.start ?_
      refine JR.run rfl rfl (r_assign rfl rfl rfl trivial) ?_
      refine JR.done [] (by kernel_rfl) rfl (by kernel_rfl) ?_
      refine J_weak [(1, _), (2, _), (3, _), (6, _), (2003, _)] ⟨rfl, rfl, rfl, rfl, rfl, trivial⟩ ?_
      refine J_ret ?_
      exact ⟨.inl rfl, _, rfl, .refl _, trivial⟩
    · intro h25
      replace h25 := of_decide_eq_false h25
      refine JR.run rfl rfl (r_pickF rfl rfl rfl rfl trivial) ?_
      refine JR.done [] (by kernel_rfl) rfl (by kernel_rfl) ?_
      refine J_weak [(1, _), (2, _), (3, _), (6, _), (26, _), (2003, _)] ⟨rfl, rfl, rfl, rfl, rfl, rfl, trivial⟩ ?_
      refine J_condF rfl ?_
      refine J_skip ?_
      refine J_seq ?_
      refine JR.start ?_
      refine JR.run rfl rfl (r_loadA (m := 3) (us := _) rfl rfl (by kernel_rfl) rfl rfl rfl rfl) ?_
      refine JR.run rfl rfl (r_call (kKeepType t.size t (Nat.le_refl _) (by omega)) rfl rfl rfl trivial (by kernel_rfl)) ?_
      refine JR.run rfl rfl (r_alloc (x := 2007) (zs := [.int .i64 0, .int .i64 0, .slice none 0 0]) [.lit (.int .i64 0), .lit (.int .i64 0), .sl 3 []] rfl rfl rfl (by kernel_rfl) ⟨.refl _, .refl _, .nil _, trivial⟩) ?_
      refine JR.run rfl rfl (r_storeA rfl rfl (by kernel_rfl) rfl rfl rfl rfl rfl) ?_
      refine JR.done [] (by kernel_rfl) rfl (by kernel_rfl) ?_
      refine J_weak [(1, _), (2, _), (3, _), (6, _), (7, _), (2003, _), (2007, _)] ⟨rfl, rfl, rfl, rfl, rfl, rfl, rfl, trivial⟩ ?_
      refine J_seq ?_
      refine JR.start ?_
      refine JR.run rfl rfl (r_loadA (m := 3) (us := _) rfl rfl (by kernel_rfl) rfl rfl rfl rfl) ?_
      refine JR.run rfl rfl (r_call (kText t (by omega)) rfl rfl rfl trivial (by kernel_rfl)) ?_
      refine JR.run rfl rfl (r_move rfl rfl rfl trivial) ?_
      refine JR.run rfl rfl (r_extract rfl rfl rfl rfl rfl) ?_
      refine JR.run rfl rfl (r_extract rfl rfl rfl rfl rfl) ?_
      refine JR.run rfl rfl (r_assign rfl rfl rfl trivial) ?_
      refine JR.run rfl rfl (r_assign rfl rfl rfl trivial) ?_
      refine JR.done [] (by kernel_rfl) rfl (by kernel_rfl) ?_
      refine J_weak [(1, _), (2, _), (3, _), (6, _), (7, _), (8, _), (9, _), (2003, _), (2007, _)] ⟨rfl, rfl, rfl, rfl, rfl, rfl, rfl, rfl, rfl, trivial⟩ ?_
      refine J_seq ?_
      refine JR.start ?_
      refine JR.run rfl rfl (r_assign rfl rfl rfl trivial) ?_
      refine JR.run rfl rfl (r_assign rfl rfl rfl trivial) ?_
      refine JR.done [] (by kernel_rfl) rfl (by kernel_rfl) ?_
      refine J_weak [(1, _), (2, _), (3, _), (6, _), (7, _), (8, _), (9, _), (10, _), (11, _), (2003, _), (2007, _)] ⟨rfl, rfl, rfl, rfl, rfl, rfl, rfl, rfl, rfl, rfl, rfl, trivial⟩ ?_
      refine J_seq ?_
      refine J_seq ?_
      refine JR.start ?_
      refine JR.run rfl rfl (r_loadA (m := 3) (us := _) rfl rfl (by kernel_rfl) rfl rfl rfl rfl) ?_
      refine JR.runC rfl rfl (r_call (kRight t.size t (by omega) (Nat.le_refl _)) rfl rfl rfl trivial (by kernel_rfl)) rfl ?_ ?_
      · intro h35
        refine JR.done [] (by kernel_rfl) rfl (by kernel_rfl) ?_
        refine J_weak [(1, _), (2, _), (3, _), (6, _), (7, _), (8, _), (9, _), (10, _), (11, _), (35, _), (2003, _), (2007, _)] ⟨rfl, rfl, rfl, rfl, rfl, rfl, rfl, rfl, rfl, rfl, rfl, rfl, trivial⟩ ?_
        refine J_condT rfl ?_
        refine JR.start ?_
        refine JR.run rfl rfl (r_loadA (m := 3) (us := _) rfl rfl (by kernel_rfl) rfl rfl rfl rfl) ?_
        refine JR.run rfl rfl (r_call (kRefText t.size t (Nat.le_refl _) (by omega) (right_ty t.size t (Nat.le_refl _) h35)) rfl rfl rfl trivial (by kernel_rfl)) ?_
        refine JR.run rfl rfl (r_assign rfl rfl rfl trivial) ?_
        refine JR.run rfl rfl (r_assign rfl rfl rfl trivial) ?_
        refine JR.done [] (by kernel_rfl) rfl (by kernel_rfl) ?_
        refine J_weak [(1, _), (2, _), (3, _), (6, _), (7, _), (8, _), (9, _), (10, _), (11, _), (2003, _), (2007, _)] ⟨rfl, rfl, rfl, rfl, rfl, rfl, rfl, rfl, rfl, rfl, rfl, trivial⟩ ?_
        refine J_seq ?_
        refine J_seq ?_
        refine JR.start ?_
        refine JR.run rfl rfl (r_move rfl rfl rfl trivial) ?_
        refine JR.run rfl rfl (r_move rfl rfl rfl trivial) ?_
        refine JR.run rfl rfl ((r_neS rfl rfl rfl rfl).cast (cast_b (b' := false) (by rw [h35]; simp))) ?_
        refine JR.run rfl rfl (r_move rfl rfl rfl trivial) ?_
        refine JR.run rfl rfl (r_move rfl rfl rfl trivial) ?_
        refine JR.run rfl rfl (r_move rfl rfl rfl trivial) ?_
        refine JR.run rfl rfl ((r_neI rfl rfl rfl rfl).cast (cast_b (b' := false) (by rw [h35]; rfl))) ?_
        refine JR.run rfl rfl (r_pickF rfl rfl rfl rfl trivial) ?_
        refine JR.run rfl rfl (r_move rfl rfl rfl trivial) ?_
        refine JR.run rfl rfl (r_loadA (m := 3) (us := _) rfl rfl (by kernel_rfl) rfl rfl rfl rfl) ?_
        refine JR.run rfl rfl (r_loadA (m := 3) (us := _) rfl rfl (by kernel_rfl) rfl rfl rfl rfl) ?_
        refine JR.run rfl rfl (r_call (kSameS t (by omega)) rfl rfl rfl trivial (by kernel_rfl)) ?_
        refine JR.run rfl rfl (r_not rfl rfl rfl) ?_
        refine JR.run rfl rfl (r_pickF rfl rfl rfl rfl trivial) ?_
        refine JR.done [] (by kernel_rfl) rfl (by kernel_rfl) ?_
        refine J_weak [(1, _), (2, _), (6, _), (9, _), (11, _), (51, _)] ⟨rfl, rfl, rfl, rfl, rfl, rfl, trivial⟩ ?_
        refine J_condF rfl ?_
        refine J_skip ?_
        refine J_seq ?_
        refine JR.start ?_
        refine JR.run rfl rfl (r_move rfl rfl rfl trivial) ?_
        refine JR.run rfl rfl (r_call (kScan bs (by omega)) rfl rfl rfl trivial (by kernel_rfl)) ?_
        refine JR.run rfl rfl (r_move rfl rfl rfl trivial) ?_
        refine JR.run rfl rfl (r_extract rfl rfl rfl rfl rfl) ?_
        refine JR.run rfl rfl (r_extract rfl rfl rfl rfl rfl) ?_
        refine JR.run rfl rfl (r_extract rfl rfl rfl rfl rfl) ?_
        refine JR.run rfl rfl (r_assign rfl rfl rfl trivial) ?_
        refine JR.run rfl rfl (r_assign rfl rfl rfl trivial) ?_
        refine JR.run rfl rfl (r_assign rfl rfl rfl trivial) ?_
        refine JR.done [] (by kernel_rfl) rfl (by kernel_rfl) ?_
        refine J_weak [(2, _), (6, _), (9, _), (11, _), (12, _)] ⟨rfl, rfl, rfl, rfl, rfl, trivial⟩ ?_
        refine J_seq ?_
        refine JR.start ?_
        refine JR.run rfl rfl (r_move rfl rfl rfl trivial) ?_
        refine JR.run rfl rfl (r_move rfl rfl rfl trivial) ?_
        refine JR.run rfl rfl (r_call (kRead (scTs bs) i (by omega)) rfl rfl rfl trivial (by kernel_rfl)) ?_
        refine JR.run rfl rfl (r_move rfl rfl rfl trivial) ?_
        refine JR.run rfl rfl (r_extract rfl rfl rfl rfl rfl) ?_
        refine JR.run rfl rfl (r_extract rfl rfl rfl rfl rfl) ?_
        refine JR.run rfl rfl (r_extract rfl rfl rfl rfl rfl) ?_
        refine JR.run rfl rfl (r_alloc (x := 2015) (zs := [.int .i64 0, .int .i64 0, .slice none 0 0]) [.lit (.int .i64 0), .lit (.int .i64 0), .sl 3 []] rfl rfl rfl (by kernel_rfl) ⟨.refl _, .refl _, .nil _, trivial⟩) ?_
        refine JR.run rfl rfl (r_storeA rfl rfl (by kernel_rfl) rfl rfl rfl rfl rfl) ?_
        refine JR.run rfl rfl (r_assign rfl rfl rfl trivial) ?_
        refine JR.run rfl rfl (r_assign rfl rfl rfl trivial) ?_
        refine JR.done [] (by kernel_rfl) rfl (by kernel_rfl) ?_
        refine J_weak [(2, _), (6, _), (9, _), (11, _), (12, _), (15, _), (16, _), (2015, _)] ⟨rfl, rfl, rfl, rfl, rfl, rfl, rfl, rfl, trivial⟩ ?_
        refine J_seq ?_
        refine JR.start ?_
        refine JR.run rfl rfl (r_move rfl rfl rfl trivial) ?_
        refine JR.run rfl rfl (r_move rfl rfl rfl trivial) ?_
        refine JR.run rfl rfl (r_call (kRefRead (scTs bs) i (by omega)) rfl rfl rfl trivial (by kernel_rfl)) ?_
        refine JR.run rfl rfl (r_move rfl rfl rfl trivial) ?_
        refine JR.run rfl rfl (r_extract rfl rfl rfl rfl rfl) ?_
        refine JR.run rfl rfl (r_extract rfl rfl rfl rfl rfl) ?_
        refine JR.run rfl rfl (r_extract rfl rfl rfl rfl rfl) ?_
        refine JR.run rfl rfl (r_alloc (x := 2017) (zs := [.int .i64 0, .int .i64 0, .slice none 0 0]) [.lit (.int .i64 0), .lit (.int .i64 0), .sl 3 []] rfl rfl rfl (by kernel_rfl) ⟨.refl _, .refl _, .nil _, trivial⟩) ?_
        refine JR.run rfl rfl (r_storeA rfl rfl (by kernel_rfl) rfl rfl rfl rfl rfl) ?_
        refine JR.run rfl rfl (r_assign rfl rfl rfl trivial) ?_
        refine JR.run rfl rfl (r_assign rfl rfl rfl trivial) ?_
        refine JR.done [] (by kernel_rfl) rfl (by kernel_rfl) ?_
        refine J_weak [(6, _), (9, _), (11, _), (15, _), (16, _), (17, _), (18, _), (2015, _), (2017, _)] ⟨rfl, rfl, rfl, rfl, rfl, rfl, rfl, rfl, rfl, trivial⟩ ?_
        refine J_seq ?_
        refine JR.start ?_
        refine JR.run rfl rfl (r_move rfl rfl rfl trivial) ?_
        refine JR.run rfl rfl (r_move rfl rfl rfl trivial) ?_
        refine JR.run rfl rfl ((r_eqI rfl rfl rfl rfl).cast (cast_b (b' := true) (by exact decide_eq_true rfl))) ?_
        refine JR.run rfl rfl (r_move rfl rfl rfl trivial) ?_
        refine JR.run rfl rfl (r_move rfl rfl rfl trivial) ?_
        refine JR.run rfl rfl (r_move rfl rfl rfl trivial) ?_
        refine JR.run rfl rfl ((r_eqI rfl rfl rfl rfl).cast (cast_b (b' := true) (by exact decide_eq_true rfl))) ?_
        refine JR.run rfl rfl (r_pickT rfl rfl rfl rfl trivial) ?_
        refine JR.run rfl rfl (r_move rfl rfl rfl trivial) ?_
        refine JR.run rfl rfl (r_loadA (m := 3) (us := _) rfl rfl (by kernel_rfl) rfl rfl rfl rfl) ?_
        refine JR.run rfl rfl (r_loadA (m := 3) (us := _) rfl rfl (by kernel_rfl) rfl rfl rfl rfl) ?_
        refine JR.run rfl rfl (r_call (kSameS (mRead (scTs bs) i).1 (by omega)) rfl rfl rfl trivial (by kernel_rfl)) ?_
        refine JR.run rfl rfl (r_pickT rfl rfl rfl rfl trivial) ?_
        refine JR.run rfl rfl (r_move rfl rfl rfl trivial) ?_
        refine JR.run rfl rfl (r_call (kWakes) rfl rfl rfl trivial (by kernel_rfl)) ?_
        refine JR.run rfl rfl (r_pickT rfl rfl rfl rfl trivial) ?_
        refine JR.run rfl rfl (r_assign rfl rfl rfl trivial) ?_
        refine JR.done [] (by kernel_rfl) rfl (by kernel_rfl) ?_
        refine J_weak [(6, _)] ⟨rfl, trivial⟩ ?_
        refine J_ret ?_
        exact ⟨.inl rfl, _, rfl, .refl _, trivial⟩
      · intro h35
        refine JR.done [] (by kernel_rfl) rfl (by kernel_rfl) ?_
        refine J_weak [(1, _), (2, _), (3, _), (6, _), (7, _), (8, _), (9, _), (10, _), (11, _), (35, _), (2003, _), (2007, _)] ⟨rfl, rfl, rfl, rfl, rfl, rfl, rfl, rfl, rfl, rfl, rfl, rfl, trivial⟩ ?_
        refine J_condF rfl ?_
        refine J_skip ?_
        refine J_seq ?_
        refine J_seq ?_
        refine JR.start ?_
        refine JR.run rfl rfl (r_move rfl rfl rfl trivial) ?_
        refine JR.run rfl rfl (r_move rfl rfl rfl trivial) ?_
        refine JR.run rfl rfl ((r_neS rfl rfl rfl rfl).cast (cast_b (b' := false) (by rw [h35]; simp))) ?_
        refine JR.run rfl rfl (r_move rfl rfl rfl trivial) ?_
        refine JR.run rfl rfl (r_move rfl rfl rfl trivial) ?_
        refine JR.run rfl rfl (r_move rfl rfl rfl trivial) ?_
        refine JR.run rfl rfl ((r_neI rfl rfl rfl rfl).cast (cast_b (b' := false) (by rw [h35]; rfl))) ?_
        refine JR.run rfl rfl (r_pickF rfl rfl rfl rfl trivial) ?_
        refine JR.run rfl rfl (r_move rfl rfl rfl trivial) ?_
        refine JR.run rfl rfl (r_loadA (m := 3) (us := _) rfl rfl (by kernel_rfl) rfl rfl rfl rfl) ?_
        refine JR.run rfl rfl (r_loadA (m := 3) (us := _) rfl rfl (by kernel_rfl) rfl rfl rfl rfl) ?_
        refine JR.run rfl rfl (r_call (kSameS t (by omega)) rfl rfl rfl trivial (by kernel_rfl)) ?_
        refine JR.run rfl rfl (r_not rfl rfl rfl) ?_
        refine JR.run rfl rfl (r_pickF rfl rfl rfl rfl trivial) ?_
        refine JR.done [] (by kernel_rfl) rfl (by kernel_rfl) ?_
        refine J_weak [(1, _), (2, _), (6, _), (9, _), (11, _), (51, _)] ⟨rfl, rfl, rfl, rfl, rfl, rfl, trivial⟩ ?_
        refine J_condF rfl ?_
        refine J_skip ?_
        refine J_seq ?_
        refine JR.start ?_
        refine JR.run rfl rfl (r_move rfl rfl rfl trivial) ?_
        refine JR.run rfl rfl (r_call (kScan bs (by omega)) rfl rfl rfl trivial (by kernel_rfl)) ?_
        refine JR.run rfl rfl (r_move rfl rfl rfl trivial) ?_
        refine JR.run rfl rfl (r_extract rfl rfl rfl rfl rfl) ?_
        refine JR.run rfl rfl (r_extract rfl rfl rfl rfl rfl) ?_
        refine JR.run rfl rfl (r_extract rfl rfl rfl rfl rfl) ?_
        refine JR.run rfl rfl (r_assign rfl rfl rfl trivial) ?_
        refine JR.run rfl rfl (r_assign rfl rfl rfl trivial) ?_
        refine JR.run rfl rfl (r_assign rfl rfl rfl trivial) ?_
        refine JR.done [] (by kernel_rfl) rfl (by kernel_rfl) ?_
        refine J_weak [(2, _), (6, _), (9, _), (11, _), (12, _)] ⟨rfl, rfl, rfl, rfl, rfl, trivial⟩ ?_
        refine J_seq ?_
        refine JR.start ?_
        refine JR.run rfl rfl (r_move rfl rfl rfl trivial) ?_
        refine JR.run rfl rfl (r_move rfl rfl rfl trivial) ?_
        refine JR.run rfl rfl (r_call (kRead (scTs bs) i (by omega)) rfl rfl rfl trivial (by kernel_rfl)) ?_
        refine JR.run rfl rfl (r_move rfl rfl rfl trivial) ?_
        refine JR.run rfl rfl (r_extract rfl rfl rfl rfl rfl) ?_
        refine JR.run rfl rfl (r_extract rfl rfl rfl rfl rfl) ?_
        refine JR.run rfl rfl (r_extract rfl rfl rfl rfl rfl) ?_
        refine JR.run rfl rfl (r_alloc (x := 2015) (zs := [.int .i64 0, .int .i64 0, .slice none 0 0]) [.lit (.int .i64 0), .lit (.int .i64 0), .sl 3 []] rfl rfl rfl (by kernel_rfl) ⟨.refl _, .refl _, .nil _, trivial⟩) ?_
        refine JR.run rfl rfl (r_storeA rfl rfl (by kernel_rfl) rfl rfl rfl rfl rfl) ?_
        refine JR.run rfl rfl (r_assign rfl rfl rfl trivial) ?_
        refine JR.run rfl rfl (r_assign rfl rfl rfl trivial) ?_
        refine JR.done [] (by kernel_rfl) rfl (by kernel_rfl) ?_
        refine J_weak [(2, _), (6, _), (9, _), (11, _), (12, _), (15, _), (16, _), (2015, _)] ⟨rfl, rfl, rfl, rfl, rfl, rfl, rfl, rfl, trivial⟩ ?_
        refine J_seq ?_
        refine JR.start ?_
        refine JR.run rfl rfl (r_move rfl rfl rfl trivial) ?_
        refine JR.run rfl rfl (r_move rfl rfl rfl trivial) ?_
        refine JR.run rfl rfl (r_call (kRefRead (scTs bs) i (by omega)) rfl rfl rfl trivial (by kernel_rfl)) ?_
        refine JR.run rfl rfl (r_move rfl rfl rfl trivial) ?_
        refine JR.run rfl rfl (r_extract rfl rfl rfl rfl rfl) ?_
        refine JR.run rfl rfl (r_extract rfl rfl rfl rfl rfl) ?_
        refine JR.run rfl rfl (r_extract rfl rfl rfl rfl rfl) ?_
        refine JR.run rfl rfl (r_alloc (x := 2017) (zs := [.int .i64 0, .int .i64 0, .slice none 0 0]) [.lit (.int .i64 0), .lit (.int .i64 0), .sl 3 []] rfl rfl rfl (by kernel_rfl) ⟨.refl _, .refl _, .nil _, trivial⟩) ?_
        refine JR.run rfl rfl (r_storeA rfl rfl (by kernel_rfl) rfl rfl rfl rfl rfl) ?_
        refine JR.run rfl rfl (r_assign rfl rfl rfl trivial) ?_
        refine JR.run rfl rfl (r_assign rfl rfl rfl trivial) ?_
        refine JR.done [] (by kernel_rfl) rfl (by kernel_rfl) ?_
        refine J_weak [(6, _), (9, _), (11, _), (15, _), (16, _), (17, _), (18, _), (2015, _), (2017, _)] ⟨rfl, rfl, rfl, rfl, rfl, rfl, rfl, rfl, rfl, trivial⟩ ?_
        refine J_seq ?_
        refine JR.start ?_
        refine JR.run rfl rfl (r_move rfl rfl rfl trivial) ?_
        refine JR.run rfl rfl (r_move rfl rfl rfl trivial) ?_
        refine JR.run rfl rfl ((r_eqI rfl rfl rfl rfl).cast (cast_b (b' := true) (by exact decide_eq_true rfl))) ?_
        refine JR.run rfl rfl (r_move rfl rfl rfl trivial) ?_
        refine JR.run rfl rfl (r_move rfl rfl rfl trivial) ?_
        refine JR.run rfl rfl (r_move rfl rfl rfl trivial) ?_
        refine JR.run rfl rfl ((r_eqI rfl rfl rfl rfl).cast (cast_b (b' := true) (by exact decide_eq_true rfl))) ?_
        refine JR.run rfl rfl (r_pickT rfl rfl rfl rfl trivial) ?_
        refine JR.run rfl rfl (r_move rfl rfl rfl trivial) ?_
        refine JR.run rfl rfl (r_loadA (m := 3) (us := _) rfl rfl (by kernel_rfl) rfl rfl rfl rfl) ?_
        refine JR.run rfl rfl (r_loadA (m := 3) (us := _) rfl rfl (by kernel_rfl) rfl rfl rfl rfl) ?_
        refine JR.run rfl rfl (r_call (kSameS (mRead (scTs bs) i).1 (by omega)) rfl rfl rfl trivial (by kernel_rfl)) ?_
        refine JR.run rfl rfl (r_pickT rfl rfl rfl rfl trivial) ?_
        refine JR.run rfl rfl (r_move rfl rfl rfl trivial) ?_
        refine JR.run rfl rfl (r_call (kWakes) rfl rfl rfl trivial (by kernel_rfl)) ?_
        refine JR.run rfl rfl (r_pickT rfl rfl rfl rfl trivial) ?_
        refine JR.run rfl rfl (r_assign rfl rfl rfl trivial) ?_
        refine JR.done [] (by kernel_rfl) rfl (by kernel_rfl) ?_
        refine J_weak [(6, _)] ⟨rfl, trivial⟩ ?_
        refine J_ret ?_
        exact ⟨.inl rfl, _, rfl, .refl _, trivial⟩

end Go.Proofs.YtoadmjnaakbljaaDoor
