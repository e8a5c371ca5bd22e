/- ParseOps: what the law's own functions ask of a tree. -/
import Derived.Test.YtkipkplpmeholaaSh20
import Derived.Test.YtkipkplpmeholaaEw
namespace Go.Proofs.Ytkipkplpmeholaa
open Go Go.RowKit
set_option maxRecDepth 100000
set_option maxHeartbeats 2000000
set_option linter.unusedVariables false
set_option linter.unusedSimpArgs false

def intsD (l : List Nat) : List (List D) := l.map fun (k : Nat) => [.lit (.int .i64 (k : Int))]
theorem intsD_len (l : List Nat) : (intsD l).length = l.length := by simp [intsD]
theorem intsD_at {l : List Nat} {n : Int} {i k : Nat} (hn : n = (i : Int)) (h : l[i]? = some k) : (intsD l)[n.toNat]? = some [.lit (.int .i64 (k : Int))] := by subst hn; simp [intsD, h]
theorem intsD_take (l : List Nat) (i : Nat) : (intsD l).take i = intsD (l.take i) := by simp [intsD, List.map_take]
theorem intsD_drop (l : List Nat) (i : Nat) : (intsD l).drop i = intsD (l.drop i) := by simp [intsD, List.map_drop]
inductive Pr : Ex → List Nat → Prop
  | nil {a b : Int} {arg : List UInt8} {n : Int} {s : List UInt8} {op : Int} {A B : Ty} {pats : List Pa} {kids : List Ex} : Pr (.mk 1 a b [97] arg n s op A B pats kids) []
  | snoc {a b : Int} {nm arg : List UInt8} {n : Int} {s : List UInt8} {op : Int} {A B : Ty} {pats : List Pa} {x y : Ex} {l : List Nat} {k : Nat} : op = (k : Int) + 1 → Pr x l → Pr y [] → Pr (.mk 16 a b nm arg n s op A B pats [x, y]) (l ++ [k])
inductive Su : Ex → List Nat → Prop
  | base {e : Ex} {l : List Nat} : Pr e l → (∀ k, k ∈ l → 2 ≤ k) → Su e l
  | step {a b : Int} {nm arg : List UInt8} {n : Int} {s : List UInt8} {op : Int} {A B : Ty} {pats : List Pa} {x y : Ex} {l r : List Nat} {k : Nat} : k < 2 → op = (k : Int) + 1 → Su x l → Pr y r → (∀ k, k ∈ r → 2 ≤ k) → Su (.mk 16 a b nm arg n s op A B pats [x, y]) (l ++ k :: r)
inductive Li : Ex → List Nat → Prop
  | base {e : Ex} {l : List Nat} : Su e l → (∀ k, k ∈ l → k < 4) → Li e l
  | step {a b : Int} {nm arg : List UInt8} {n : Int} {s : List UInt8} {op : Int} {A B : Ty} {pats : List Pa} {x y : Ex} {l r : List Nat} : Su x l → (∀ k, k ∈ l → k < 4) → Li y r → Li (.mk 8 a b nm arg n s op A B pats [x, y]) (l ++ 4 :: r)
theorem om_at {l r : List Nat} {k : Nat} : (l ++ k :: r)[l.length]? = some k := by rw [List.getElem?_append_right (Nat.le_refl _), Nat.sub_self]; rfl
theorem om_take {l r : List Nat} {k : Nat} : (l ++ k :: r).take l.length = l := by rw [List.take_append_of_le_length (Nat.le_refl _), List.take_length]
theorem om_drop {l r : List Nat} {k : Nat} : (l ++ k :: r).drop (l.length + 1) = r := by
  rw [List.drop_append, List.drop_eq_nil_of_le (by omega), List.nil_append, show l.length + 1 - l.length = 1 by omega]; rfl
theorem om_left {l r : List Nat} {k i : Nat} (h : i < l.length) : ∃ x, x ∈ l ∧ (l ++ k :: r)[i]? = some x := ⟨l[i], List.getElem_mem h, by rw [List.getElem?_append_left h, List.getElem?_eq_getElem h]⟩
theorem om_right {l r : List Nat} {k i : Nat} (h : l.length < i) (h2 : i < (l ++ k :: r).length) : ∃ x, x ∈ r ∧ (l ++ k :: r)[i]? = some x := by
  simp only [List.length_append, List.length_cons] at h2
  obtain ⟨j, rfl⟩ : ∃ j, i = l.length + (j + 1) := ⟨i - l.length - 1, by omega⟩
  have hj : j < r.length := by omega
  refine ⟨r[j], List.getElem_mem hj, ?_⟩
  rw [List.getElem?_append_right (by omega), show l.length + (j + 1) - l.length = j + 1 by omega, List.getElem?_cons_succ, List.getElem?_eq_getElem hj]
theorem kid0 (x y : Ex) : (exsD [x, y])[(0 : Int).toNat]? = some (exX x) := by rw [exsD_map]; rfl
theorem kid1 (x y : Ex) : (exsD [x, y])[(1 : Int).toNat]? = some (exX y) := by rw [exsD_map]; rfl
theorem kids2 (x y : Ex) : (exsD [x, y]).length = 2 := by rw [exsD_len]; rfl

theorem prNil {e : Ex} (h : Pr e []) : Con Try.prog 44 [.agg (exX e), .c (.lit (.slice none 0 0))] [] (.c (.lit (.bool true))) [] := by
  obtain ⟨l, hl⟩ : ∃ l, l = ([] : List Nat) := ⟨_, rfl⟩
  rw [← hl] at h
  cases h with
  | nil =>
    refine con_intro rfl rfl (by kernel_rfl) (by kernel_rfl) ?_
    refine js ?_
    refine u rfl rfl (r_boxA (x := 2002) rfl rfl rfl rfl) ?_
    refine u rfl rfl asg ?_
    refine jd ?_
    refine w4 1 2 4 2002 ?_
    refine js ?_
    refine u rfl rfl mv ?_
    refine u rfl rfl (r_lenNil rfl rfl (by kernel_rfl) rfl) ?_
    refine u rfl rfl asg ?_
    refine jd ?_
    refine w5 1 2 4 5 2002 ?_
    refine J_seq ?_
    refine js ?_
    refine u rfl rfl mv ?_
    refine u rfl rfl ((r_eqI rfl rfl rfl rfl).cast (cast_b (b' := true) (by kernel_rfl))) ?_
    refine jd ?_
    refine w6 1 2 4 5 9 2002 ?_
    refine J_condT rfl ?_
    refine js ?_
    refine u rfl rfl (fA 0 1) ?_
    refine u rfl rfl ld ?_
    refine u rfl rfl ((r_eqI rfl rfl rfl rfl).cast (cast_b (b' := true) (by kernel_rfl))) ?_
    refine u rfl rfl mv ?_
    refine u rfl rfl (fA 3 1) ?_
    refine u rfl rfl ld ?_
    refine u rfl rfl ((r_eqS rfl rfl rfl rfl).cast (cast_b (b' := true) (by kernel_rfl))) ?_
    refine u rfl rfl pT ?_
    refine u rfl rfl asg ?_
    refine jd ?_
    refine w5 1 2 4 5 2002 ?_
    refine J_ret ?_
    exact ⟨.inl rfl, _, rfl, .refl _, trivial⟩
  | snoc => simp at hl
theorem prCon {e : Ex} {l : List Nat} (h : Pr e l) : l.length ≤ 100 → (∀ k, k ∈ l → k ≤ 4) → Con Try.prog 44 [.agg (exX e), .c (.sl 1 (intsD l))] [] (.c (.lit (.bool true))) [] := by
  induction h with
  | nil =>
    intro hl hk
    refine con_intro rfl rfl (by kernel_rfl) (by kernel_rfl) ?_
    refine js ?_
    refine u rfl rfl (r_boxA (x := 2002) rfl rfl rfl rfl) ?_
    refine u rfl rfl asg ?_
    refine jd ?_
    refine w4 1 2 4 2002 ?_
    refine js ?_
    refine u rfl rfl mv ?_
    refine u rfl rfl ln0 ?_
    refine u rfl rfl asg ?_
    refine jd ?_
    refine w5 1 2 4 5 2002 ?_
    refine J_seq ?_
    refine js ?_
    refine u rfl rfl mv ?_
    refine u rfl rfl ((r_eqI rfl rfl rfl rfl).cast (cast_b (b' := true) (by kernel_rfl))) ?_
    refine jd ?_
    refine w6 1 2 4 5 9 2002 ?_
    refine J_condT rfl ?_
    refine js ?_
    refine u rfl rfl (fA 0 1) ?_
    refine u rfl rfl ld ?_
    refine u rfl rfl ((r_eqI rfl rfl rfl rfl).cast (cast_b (b' := true) (by kernel_rfl))) ?_
    refine u rfl rfl mv ?_
    refine u rfl rfl (fA 3 1) ?_
    refine u rfl rfl ld ?_
    refine u rfl rfl ((r_eqS rfl rfl rfl rfl).cast (cast_b (b' := true) (by kernel_rfl))) ?_
    refine u rfl rfl pT ?_
    refine u rfl rfl asg ?_
    refine jd ?_
    refine w5 1 2 4 5 2002 ?_
    refine J_ret ?_
    exact ⟨.inl rfl, _, rfl, .refl _, trivial⟩
  | @snoc a b nm arg n s op A B pats x y l k hop hx hy ihx ihy =>
    intro hl hk
    have hlen : (intsD (l ++ [k])).length = l.length + 1 := by rw [intsD_len]; simp
    have hk4 : k ≤ 4 := hk k (by simp)
    have hll : l.length + 1 ≤ 100 := by simpa using hl
    have c1 := ihx (by simp at hl; omega) (fun z hz => hk z (by simp [hz]))
    have c2 := prNil hy
    have e1 : (intsD (l ++ [k])).take l.length = intsD l := by rw [intsD_take, om_take]
    rw [← e1] at c1
    refine con_intro rfl rfl (by kernel_rfl) (by kernel_rfl) ?_
    refine js ?_
    refine u rfl rfl (r_boxA (x := 2002) rfl rfl rfl rfl) ?_
    refine u rfl rfl asg ?_
    refine jd ?_
    refine w4 1 2 4 2002 ?_
    refine js ?_
    refine u rfl rfl mv ?_
    refine u rfl rfl ln0 ?_
    refine u rfl rfl asg ?_
    refine jd ?_
    refine w5 1 2 4 5 2002 ?_
    refine J_seq ?_
    refine js ?_
    refine u rfl rfl mv ?_
    refine u rfl rfl ((r_eqI rfl rfl rfl rfl).cast (cast_b (b' := false) (by exact decide_eq_false (by omega)))) ?_
    refine jd ?_
    refine w6 1 2 4 5 9 2002 ?_
    refine J_condF rfl ?_
    refine J_skip ?_
    refine js ?_
    refine u rfl rfl (fA 0 1) ?_
    refine u rfl rfl ld ?_
    refine u rfl rfl ((r_eqI rfl rfl rfl rfl).cast (cast_b (b' := true) (by kernel_rfl))) ?_
    refine u rfl rfl mv ?_
    refine u rfl rfl (fA 7 1) ?_
    refine u rfl rfl ld ?_
    refine u rfl rfl mv ?_
    refine u rfl rfl mv ?_
    refine u rfl rfl ((r_subI rfl rfl rfl rfl (by omega)).cast (cast_i (j := (l.length : Int)) (by rw [hlen]; omega))) ?_
    refine u rfl rfl (r_indexAddr (e := 3) (sz := 1) rfl rfl (by kernel_rfl) rfl rfl (by omega) (intsD_at rfl om_at)) ?_
    refine u rfl rfl lE ?_
    refine u rfl rfl (r_addI rfl rfl rfl rfl (by omega)) ?_
    refine u rfl rfl (r_subI rfl rfl rfl rfl (by omega)) ?_
    refine u rfl rfl ((r_eqI rfl rfl rfl rfl).cast (cast_b (b' := true) (by exact decide_eq_true (by rw [show (Ex.mk 16 a b nm arg n s op A B pats [x, y]).op = op from rfl, hop]; omega)))) ?_
    refine u rfl rfl pT ?_
    refine u rfl rfl mv ?_
    refine u rfl rfl (fA 15 1) ?_
    refine u rfl rfl ld ?_
    refine u rfl rfl ln0 ?_
    refine u rfl rfl ((r_eqI rfl rfl rfl rfl).cast (cast_b (b' := true) (by exact decide_eq_true (by rw [show (exsD (Ex.mk 16 a b nm arg n s op A B pats [x, y]).kids).length = 2 from kids2 x y]; rfl)))) ?_
    refine u rfl rfl pT ?_
    refine u rfl rfl mv ?_
    refine u rfl rfl (fA 15 1) ?_
    refine u rfl rfl ld ?_
    refine u rfl rfl (r_indexAddr (e := 31) (sz := 16) rfl rfl (by kernel_rfl) rfl rfl (by decide) (kid0 x y)) ?_
    refine u rfl rfl (eA 16) ?_
    refine u rfl rfl mv ?_
    refine u rfl rfl mv ?_
    refine u rfl rfl ((r_subI rfl rfl rfl rfl (by omega)).cast (cast_i (j := (l.length : Int)) (by rw [hlen]; omega))) ?_
    refine u rfl rfl (r_sliceTo (e := 3) (sz := 1) rfl rfl (by kernel_rfl) rfl rfl (by omega)) ?_
    refine u rfl rfl (cl (c1)) ?_
    refine u rfl rfl pT ?_
    refine u rfl rfl mv ?_
    refine u rfl rfl (fA 15 1) ?_
    refine u rfl rfl ld ?_
    refine u rfl rfl (r_indexAddr (e := 31) (sz := 16) rfl rfl (by kernel_rfl) rfl rfl (by decide) (kid1 x y)) ?_
    refine u rfl rfl (eA 16) ?_
    refine u rfl rfl (cl (c2)) ?_
    refine u rfl rfl pT ?_
    refine u rfl rfl asg ?_
    refine jD [0, 1, 3, 7, 15, 31, 15, 15, 143, 463, 975, 1999, 4047, 8191, 16383, 32767, 65535, 131071, 262143, 524287, 1048575, 2097151, 4194303, 8388607, 16777215, 33554431, 4194303, 4194303, 138412031, 473956351, 1073741823, 2147483647, 4294967295, 8589934591, 17179869183, 34359738367, 68719476735, 137438953471, 274877906943, 549755813887] ?_
    refine w1 4 ?_
    refine J_ret ?_
    exact ⟨.inl rfl, _, rfl, .refl _, trivial⟩
theorem suCon {e : Ex} {l : List Nat} (h : Su e l) : l.length ≤ 100 → (∀ k, k ∈ l → k ≤ 4) → Con Try.prog 24 [.agg (exX e), .c (.sl 1 (intsD l))] [] (.c (.lit (.bool true))) [] := by
  induction h with
  | @base e l hp h2 =>
    intro hl hk
    have hlen := intsD_len l
    have c1 := prCon hp hl hk
    refine con_intro rfl rfl (by kernel_rfl) (by kernel_rfl) ?_
    refine js ?_
    refine u rfl rfl (r_boxA (x := 2002) rfl rfl rfl rfl) ?_
    refine u rfl rfl asg ?_
    refine jd ?_
    refine w4 1 2 4 2002 ?_
    refine J_seq ?_
    refine js ?_
    refine u rfl rfl mv ?_
    refine u rfl rfl ln0 ?_
    refine u rfl rfl (r_subI rfl rfl rfl rfl (by omega)) ?_
    refine u rfl rfl asg ?_
    refine jd ?_
    refine w5 1 2 4 5 2002 ?_
    refine J_block ?_
    refine J_loopF (α := { i : Int // -1 ≤ i ∧ i < (l.length : Int) }) (fun p => [(5, .c (.lit (.int .i64 p.1)))]) [(1, _), (2, _), (4, _), (2002, _)] (fun p => (p.1 + 1).toNat) ⟨_, by rw [hlen]; omega, by rw [hlen]; omega⟩ ⟨rfl, rfl, rfl, rfl, rfl, trivial⟩ ?_
    rintro ⟨i, hi1, hi2⟩
    dsimp only
    refine J_seq ?_
    refine js ?_
    refine u rfl rfl mv ?_
    refine JR.runB rfl rfl (r_geI rfl rfl rfl rfl) ?_ ?_
    · intro h10
      replace h10 := of_decide_eq_true h10
      obtain ⟨j, rfl⟩ : ∃ j : Nat, i = (j : Int) := ⟨i.toNat, by omega⟩
      have hj : j < l.length := by omega
      have hx : l[j]? = some l[j] := List.getElem?_eq_getElem hj
      have hx2 := h2 l[j] (List.getElem_mem hj)
      refine jd ?_
      refine w7 1 2 4 5 9 10 2002 ?_
      refine J_condT rfl ?_
      refine J_skip ?_
      refine J_seq ?_
      refine J_block ?_
      refine js ?_
      refine u rfl rfl mv ?_
      refine u rfl rfl mv ?_
      refine u rfl rfl (r_indexAddr (e := 3) (sz := 1) rfl rfl (by kernel_rfl) rfl rfl (by omega) (intsD_at rfl hx)) ?_
      refine u rfl rfl lE ?_
      refine u rfl rfl ((r_ltI rfl rfl rfl rfl).cast (cast_b (b' := false) (by exact decide_eq_false (by omega)))) ?_
      refine jd ?_
      refine w12 1 2 4 5 9 10 13 14 15 16 17 2002 ?_
      refine J_condF rfl ?_
      refine J_skip ?_
      refine JR.start ?_
      refine u rfl rfl mv ?_
      refine u rfl rfl (r_subI rfl rfl rfl rfl (by omega)) ?_
      refine u rfl rfl asg ?_
      refine jd ?_
      exact ⟨⟨(j : Int) - 1, by omega, by omega⟩, by simp only; omega, rfl, rfl, rfl, rfl, rfl, trivial⟩
    · intro h10
      replace h10 := of_decide_eq_false h10
      refine jd ?_
      refine w7 1 2 4 5 9 10 2002 ?_
      refine J_condF rfl ?_
      refine J_exit ?_
      refine js ?_
      refine u rfl rfl (lA 16) ?_
      refine u rfl rfl mv ?_
      refine u rfl rfl (cl (c1)) ?_
      refine u rfl rfl asg ?_
      refine jd ?_
      refine w1 4 ?_
      refine J_ret ?_
      exact ⟨.inl rfl, _, rfl, .refl _, trivial⟩
  | @step a b nm arg n s op A B pats x y l r k hk2 hop hx hy hr ihx =>
    intro hl hk
    have hll : l.length + (r.length + 1) ≤ 100 := by simpa using hl
    have hlen : (intsD (l ++ k :: r)).length = l.length + (r.length + 1) := by rw [intsD_len]; simp
    have c1 := ihx (by omega) (fun z hz => hk z (by simp [hz]))
    have c2 := prCon hy (by omega) (fun z hz => hk z (by simp [hz]))
    have e1 : (intsD (l ++ k :: r)).take l.length = intsD l := by rw [intsD_take, om_take]
    have e2 : (intsD (l ++ k :: r)).drop (l.length + 1) = intsD r := by rw [intsD_drop, om_drop]
    rw [← e1] at c1
    rw [← e2] at c2
    refine con_intro rfl rfl (by kernel_rfl) (by kernel_rfl) ?_
    refine js ?_
    refine u rfl rfl (r_boxA (x := 2002) rfl rfl rfl rfl) ?_
    refine u rfl rfl asg ?_
    refine jd ?_
    refine w4 1 2 4 2002 ?_
    refine J_seq ?_
    refine js ?_
    refine u rfl rfl mv ?_
    refine u rfl rfl ln0 ?_
    refine u rfl rfl (r_subI rfl rfl rfl rfl (by omega)) ?_
    refine u rfl rfl asg ?_
    refine jd ?_
    refine w5 1 2 4 5 2002 ?_
    refine J_block ?_
    refine J_loopF (α := { i : Int // (l.length : Int) ≤ i ∧ i < ((l.length + (r.length + 1) : Nat) : Int) }) (fun p => [(5, .c (.lit (.int .i64 p.1)))]) [(1, _), (2, _), (4, _), (2002, _)] (fun p => (p.1 + 1).toNat) ⟨_, by rw [hlen]; omega, by rw [hlen]; omega⟩ ⟨rfl, rfl, rfl, rfl, rfl, trivial⟩ ?_
    rintro ⟨i, hi1, hi2⟩
    dsimp only
    refine J_seq ?_
    refine js ?_
    refine u rfl rfl mv ?_
    refine u rfl rfl ((r_geI rfl rfl rfl rfl).cast (cast_b (b' := true) (by exact decide_eq_true (by omega)))) ?_
    refine jd ?_
    refine w7 1 2 4 5 9 10 2002 ?_
    refine J_condT rfl ?_
    refine J_skip ?_
    refine J_seq ?_
    refine J_block ?_
    refine J_seq ?_
    obtain ⟨j, rfl⟩ : ∃ j : Nat, i = (j : Int) := ⟨i.toNat, by omega⟩
    obtain ⟨v, hv⟩ : ∃ v, (l ++ k :: r)[j]? = some v := ⟨_, List.getElem?_eq_getElem (by simp; omega)⟩
    refine JR.start ?_
    refine u rfl rfl mv ?_
    refine u rfl rfl mv ?_
    refine u rfl rfl (r_indexAddr (e := 3) (sz := 1) rfl rfl (by kernel_rfl) rfl rfl (by omega) (intsD_at rfl hv)) ?_
    refine u rfl rfl lE ?_
    refine JR.runB rfl rfl (r_ltI rfl rfl rfl rfl) ?_ ?_
    · intro h17
      replace h17 := of_decide_eq_true h17
      have hij : j = l.length := by
        rcases Nat.lt_or_ge l.length j with h | h
        · obtain ⟨z, hz1, hz2⟩ := om_right (l := l) (r := r) (k := k) (i := j) h (by simp; omega)
          rw [hz2] at hv; cases hv
          have := hr v hz1; omega
        · omega
      subst hij
      have hvk : v = k := by rw [om_at] at hv; cases hv; rfl
      subst hvk
      refine jd ?_
      refine w12 1 2 4 5 9 10 13 14 15 16 17 2002 ?_
      refine J_condT rfl ?_
      refine js ?_
      refine u rfl rfl (fA 0 1) ?_
      refine u rfl rfl ld ?_
      refine u rfl rfl ((r_eqI rfl rfl rfl rfl).cast (cast_b (b' := true) (by kernel_rfl))) ?_
      refine u rfl rfl mv ?_
      refine u rfl rfl (fA 7 1) ?_
      refine u rfl rfl ld ?_
      refine u rfl rfl mv ?_
      refine u rfl rfl mv ?_
      refine u rfl rfl (r_indexAddr (e := 3) (sz := 1) rfl rfl (by kernel_rfl) rfl rfl (by omega) (intsD_at rfl hv)) ?_
      refine u rfl rfl lE ?_
      refine u rfl rfl (r_addI rfl rfl rfl rfl (by omega)) ?_
      refine u rfl rfl ((r_eqI rfl rfl rfl rfl).cast (cast_b (b' := true) (by exact decide_eq_true (by rw [show (Ex.mk 16 a b nm arg n s op A B pats [x, y]).op = op from rfl, hop]; omega)))) ?_
      refine u rfl rfl pT ?_
      refine u rfl rfl mv ?_
      refine u rfl rfl (fA 15 1) ?_
      refine u rfl rfl ld ?_
      refine u rfl rfl ln0 ?_
      refine u rfl rfl ((r_eqI rfl rfl rfl rfl).cast (cast_b (b' := true) (by exact decide_eq_true (by rw [show (exsD (Ex.mk 16 a b nm arg n s op A B pats [x, y]).kids).length = 2 from kids2 x y]; rfl)))) ?_
      refine u rfl rfl pT ?_
      refine u rfl rfl mv ?_
      refine u rfl rfl (fA 15 1) ?_
      refine u rfl rfl ld ?_
      refine u rfl rfl (r_indexAddr (e := 31) (sz := 16) rfl rfl (by kernel_rfl) rfl rfl (by decide) (kid0 x y)) ?_
      refine u rfl rfl (eA 16) ?_
      refine u rfl rfl mv ?_
      refine u rfl rfl mv ?_
      refine u rfl rfl (r_sliceTo (e := 3) (sz := 1) rfl rfl (by kernel_rfl) rfl rfl (by omega)) ?_
      refine u rfl rfl (cl (c1)) ?_
      refine u rfl rfl pT ?_
      refine u rfl rfl mv ?_
      refine u rfl rfl (fA 15 1) ?_
      refine u rfl rfl ld ?_
      refine u rfl rfl (r_indexAddr (e := 31) (sz := 16) rfl rfl (by kernel_rfl) rfl rfl (by decide) (kid1 x y)) ?_
      refine u rfl rfl (eA 16) ?_
      refine u rfl rfl mv ?_
      refine u rfl rfl mv ?_
      refine u rfl rfl ((r_addI rfl rfl rfl rfl (by omega)).cast (cast_i (j := ((l.length + 1 : Nat) : Int)) (by omega))) ?_
      refine u rfl rfl (r_sliceFrom (e := 3) (sz := 1) rfl rfl (by kernel_rfl) rfl rfl (by omega)) ?_
      refine u rfl rfl (cl (c2)) ?_
      refine u rfl rfl pT ?_
      refine u rfl rfl asg ?_
      refine jD [0, 1, 3, 7, 15, 31, 15, 15, 207, 463, 975, 2047, 4095, 8191, 16383, 32767, 65535, 131071, 262143, 524287, 1048575, 2097151, 4194303, 8388607, 1048575, 1048575, 51380223, 134217727, 268435455, 536870911, 1073741823, 2147483647, 4294967295, 8589934591, 1073741823, 1073741823, 35433480191, 121332826111, 274877906943, 549755813887, 1099511627775] ?_
      refine J_weak [(1, _), (2, _), (4, _), (5, _), (9, _), (10, _), (13, _), (14, _), (15, _), (16, _), (17, _), (18, _), (19, _), (20, _), (21, _), (22, _), (23, _), (24, _), (25, _), (26, _), (27, _), (28, _), (29, _), (30, _), (31, _), (32, _), (33, _), (34, _), (35, _), (36, _), (37, _), (38, _), (39, _), (40, _), (41, _), (42, _), (43, _), (44, _), (45, _), (46, _), (47, _), (48, _), (49, _), (50, _), (51, _), (52, _), (53, _), (54, _), (55, _), (56, _), (57, _), (2002, _)] ⟨rfl, rfl, rfl, rfl, rfl, rfl, rfl, rfl, rfl, rfl, rfl, rfl, rfl, rfl, rfl, rfl, rfl, rfl, rfl, rfl, rfl, rfl, rfl, rfl, rfl, rfl, rfl, rfl, rfl, rfl, rfl, rfl, rfl, rfl, rfl, rfl, rfl, rfl, rfl, rfl, rfl, rfl, rfl, rfl, rfl, rfl, rfl, rfl, rfl, rfl, rfl, rfl, trivial⟩ ?_
      refine J_ret ?_
      exact ⟨.inl rfl, _, rfl, .refl _, trivial⟩
    · intro h17
      replace h17 := of_decide_eq_false h17
      have hij : j ≠ l.length := fun h => by subst h; rw [om_at] at hv; cases hv; omega
      refine jd ?_
      refine w12 1 2 4 5 9 10 13 14 15 16 17 2002 ?_
      refine J_condF rfl ?_
      refine J_skip ?_
      refine JR.start ?_
      refine u rfl rfl mv ?_
      refine u rfl rfl (r_subI rfl rfl rfl rfl (by omega)) ?_
      refine u rfl rfl asg ?_
      refine jd ?_
      exact ⟨⟨(j : Int) - 1, by omega, by omega⟩, by simp only; omega, rfl, rfl, rfl, rfl, rfl, trivial⟩
theorem liCon {e : Ex} {l : List Nat} (h : Li e l) : l.length ≤ 100 → (∀ k, k ∈ l → k ≤ 4) → Con Try.prog 12 [.agg (exX e), .c (.sl 1 (intsD l))] [] (.c (.lit (.bool true))) [] := by
  induction h with
  | @base e l hp h2 =>
    intro hl hk
    have hlen := intsD_len l
    have c1 := suCon hp hl hk
    refine con_intro rfl rfl (by kernel_rfl) (by kernel_rfl) ?_
    refine js ?_
    refine u rfl rfl (r_boxA (x := 2002) rfl rfl rfl rfl) ?_
    refine u rfl rfl asg ?_
    refine jd ?_
    refine w4 1 2 4 2002 ?_
    refine J_seq ?_
    refine js ?_
    refine u rfl rfl asg ?_
    refine jd ?_
    refine w5 1 2 4 5 2002 ?_
    refine J_block ?_
    refine J_loopF (α := { i : Nat // i ≤ l.length }) (fun p => [(5, .c (.lit (.int .i64 (p.1 : Int))))]) [(1, _), (2, _), (4, _), (2002, _)] (fun p => l.length - p.1) ⟨0, Nat.zero_le _⟩ ⟨rfl, rfl, rfl, rfl, rfl, trivial⟩ ?_
    rintro ⟨i, hi⟩
    dsimp only
    refine J_seq ?_
    refine js ?_
    refine u rfl rfl mv ?_
    refine u rfl rfl mv ?_
    refine u rfl rfl ln0 ?_
    refine JR.runB rfl rfl (r_ltI rfl rfl rfl rfl) ?_ ?_
    · intro h9
      replace h9 := of_decide_eq_true h9
      have hj : i < l.length := by omega
      have hx : l[i]? = some l[i] := List.getElem?_eq_getElem hj
      have hx2 := h2 l[i] (List.getElem_mem hj)
      refine jd ?_
      refine w9 1 2 4 5 6 7 8 9 2002 ?_
      refine J_condT rfl ?_
      refine J_skip ?_
      refine J_seq ?_
      refine J_block ?_
      refine js ?_
      refine u rfl rfl mv ?_
      refine u rfl rfl mv ?_
      refine u rfl rfl (r_indexAddr (e := 3) (sz := 1) rfl rfl (by kernel_rfl) rfl rfl (by omega) (intsD_at rfl hx)) ?_
      refine u rfl rfl lE ?_
      refine u rfl rfl ((r_eqI rfl rfl rfl rfl).cast (cast_b (b' := false) (by exact decide_eq_false (by omega)))) ?_
      refine jd ?_
      refine w14 1 2 4 5 6 7 8 9 12 13 14 15 16 2002 ?_
      refine J_condF rfl ?_
      refine J_skip ?_
      refine JR.start ?_
      refine u rfl rfl mv ?_
      refine u rfl rfl (r_addI rfl rfl rfl rfl (by omega)) ?_
      refine u rfl rfl asg ?_
      refine jd ?_
      exact ⟨⟨i + 1, by omega⟩, by simp only; omega, rfl, rfl, rfl, rfl, rfl, trivial⟩
    · intro h9
      replace h9 := of_decide_eq_false h9
      refine jd ?_
      refine w9 1 2 4 5 6 7 8 9 2002 ?_
      refine J_condF rfl ?_
      refine J_exit ?_
      refine js ?_
      refine u rfl rfl (lA 16) ?_
      refine u rfl rfl mv ?_
      refine u rfl rfl (cl (c1)) ?_
      refine u rfl rfl asg ?_
      refine jd ?_
      refine w1 4 ?_
      refine J_ret ?_
      exact ⟨.inl rfl, _, rfl, .refl _, trivial⟩
  | @step a b nm arg n s op A B pats x y l r hx h4 hy ihy =>
    intro hl hk
    have hll : l.length + (r.length + 1) ≤ 100 := by simpa using hl
    have hlen : (intsD (l ++ 4 :: r)).length = l.length + (r.length + 1) := by rw [intsD_len]; simp
    have c1 := suCon hx (by omega) (fun z hz => hk z (by simp [hz]))
    have c2 := ihy (by omega) (fun z hz => hk z (by simp [hz]))
    have e1 : (intsD (l ++ 4 :: r)).take l.length = intsD l := by rw [intsD_take, om_take]
    have e2 : (intsD (l ++ 4 :: r)).drop (l.length + 1) = intsD r := by rw [intsD_drop, om_drop]
    rw [← e1] at c1
    rw [← e2] at c2
    refine con_intro rfl rfl (by kernel_rfl) (by kernel_rfl) ?_
    refine js ?_
    refine u rfl rfl (r_boxA (x := 2002) rfl rfl rfl rfl) ?_
    refine u rfl rfl asg ?_
    refine jd ?_
    refine w4 1 2 4 2002 ?_
    refine J_seq ?_
    refine js ?_
    refine u rfl rfl asg ?_
    refine jd ?_
    refine w5 1 2 4 5 2002 ?_
    refine J_block ?_
    refine J_loopF (α := { i : Nat // i ≤ l.length }) (fun p => [(5, .c (.lit (.int .i64 (p.1 : Int))))]) [(1, _), (2, _), (4, _), (2002, _)] (fun p => l.length - p.1) ⟨0, Nat.zero_le _⟩ ⟨rfl, rfl, rfl, rfl, rfl, trivial⟩ ?_
    rintro ⟨i, hi⟩
    dsimp only
    refine J_seq ?_
    refine js ?_
    refine u rfl rfl mv ?_
    refine u rfl rfl mv ?_
    refine u rfl rfl ln0 ?_
    refine u rfl rfl ((r_ltI rfl rfl rfl rfl).cast (cast_b (b' := true) (by exact decide_eq_true (by omega)))) ?_
    refine jd ?_
    refine w9 1 2 4 5 6 7 8 9 2002 ?_
    refine J_condT rfl ?_
    refine J_skip ?_
    refine J_seq ?_
    refine J_block ?_
    refine J_seq ?_
    obtain ⟨v, hv⟩ : ∃ v, (l ++ 4 :: r)[i]? = some v := ⟨_, List.getElem?_eq_getElem (by simp; omega)⟩
    refine JR.start ?_
    refine u rfl rfl mv ?_
    refine u rfl rfl mv ?_
    refine u rfl rfl (r_indexAddr (e := 3) (sz := 1) rfl rfl (by kernel_rfl) rfl rfl (by omega) (intsD_at rfl hv)) ?_
    refine u rfl rfl lE ?_
    refine JR.runB rfl rfl (r_eqI rfl rfl rfl rfl) ?_ ?_
    · intro h16
      replace h16 := of_decide_eq_true h16
      have hij : i = l.length := by
        rcases Nat.lt_or_ge i l.length with h | h
        · obtain ⟨z, hz1, hz2⟩ := om_left (l := l) (r := r) (k := 4) h
          rw [hz2] at hv; cases hv
          have := h4 v hz1; omega
        · omega
      subst hij
      refine jd ?_
      refine w14 1 2 4 5 6 7 8 9 12 13 14 15 16 2002 ?_
      refine J_condT rfl ?_
      refine js ?_
      refine u rfl rfl (fA 0 1) ?_
      refine u rfl rfl ld ?_
      refine u rfl rfl ((r_eqI rfl rfl rfl rfl).cast (cast_b (b' := true) (by kernel_rfl))) ?_
      refine u rfl rfl mv ?_
      refine u rfl rfl (fA 15 1) ?_
      refine u rfl rfl ld ?_
      refine u rfl rfl ln0 ?_
      refine u rfl rfl ((r_eqI rfl rfl rfl rfl).cast (cast_b (b' := true) (by exact decide_eq_true (by rw [show (exsD (Ex.mk 8 a b nm arg n s op A B pats [x, y]).kids).length = 2 from kids2 x y]; rfl)))) ?_
      refine u rfl rfl pT ?_
      refine u rfl rfl mv ?_
      refine u rfl rfl (fA 15 1) ?_
      refine u rfl rfl ld ?_
      refine u rfl rfl (r_indexAddr (e := 31) (sz := 16) rfl rfl (by kernel_rfl) rfl rfl (by decide) (kid0 x y)) ?_
      refine u rfl rfl (eA 16) ?_
      refine u rfl rfl mv ?_
      refine u rfl rfl mv ?_
      refine u rfl rfl (r_sliceTo (e := 3) (sz := 1) rfl rfl (by kernel_rfl) rfl rfl (by omega)) ?_
      refine u rfl rfl (cl (c1)) ?_
      refine u rfl rfl pT ?_
      refine u rfl rfl mv ?_
      refine u rfl rfl (fA 15 1) ?_
      refine u rfl rfl ld ?_
      refine u rfl rfl (r_indexAddr (e := 31) (sz := 16) rfl rfl (by kernel_rfl) rfl rfl (by decide) (kid1 x y)) ?_
      refine u rfl rfl (eA 16) ?_
      refine u rfl rfl mv ?_
      refine u rfl rfl mv ?_
      refine u rfl rfl ((r_addI rfl rfl rfl rfl (by omega)).cast (cast_i (j := ((l.length + 1 : Nat) : Int)) (by omega))) ?_
      refine u rfl rfl (r_sliceFrom (e := 3) (sz := 1) rfl rfl (by kernel_rfl) rfl rfl (by omega)) ?_
      refine u rfl rfl (cl (c2)) ?_
      refine u rfl rfl pT ?_
      refine u rfl rfl asg ?_
      refine jD [0, 1, 3, 7, 15, 31, 63, 127, 255, 511, 1023, 2047, 4095, 8191, 1023, 1023, 50175, 131071, 262143, 524287, 1048575, 2097151, 4194303, 8388607, 1048575, 1048575, 34603007, 118489087, 268435455, 536870911, 1073741823] ?_
      refine J_weak [(1, _), (2, _), (4, _), (5, _), (6, _), (7, _), (8, _), (9, _), (12, _), (13, _), (14, _), (15, _), (16, _), (17, _), (18, _), (19, _), (20, _), (21, _), (22, _), (23, _), (24, _), (25, _), (26, _), (27, _), (28, _), (29, _), (30, _), (31, _), (32, _), (33, _), (34, _), (35, _), (36, _), (37, _), (38, _), (39, _), (40, _), (41, _), (42, _), (43, _), (44, _), (45, _), (46, _), (2002, _)] ⟨rfl, rfl, rfl, rfl, rfl, rfl, rfl, rfl, rfl, rfl, rfl, rfl, rfl, rfl, rfl, rfl, rfl, rfl, rfl, rfl, rfl, rfl, rfl, rfl, rfl, rfl, rfl, rfl, rfl, rfl, rfl, rfl, rfl, rfl, rfl, rfl, rfl, rfl, rfl, rfl, rfl, rfl, rfl, rfl, trivial⟩ ?_
      refine J_ret ?_
      exact ⟨.inl rfl, _, rfl, .refl _, trivial⟩
    · intro h16
      replace h16 := of_decide_eq_false h16
      have hij : i ≠ l.length := fun h => by subst h; rw [om_at] at hv; cases hv; omega
      refine jd ?_
      refine w14 1 2 4 5 6 7 8 9 12 13 14 15 16 2002 ?_
      refine J_condF rfl ?_
      refine J_skip ?_
      refine JR.start ?_
      refine u rfl rfl mv ?_
      refine u rfl rfl (r_addI rfl rfl rfl rfl (by omega)) ?_
      refine u rfl rfl asg ?_
      refine jd ?_
      exact ⟨⟨i + 1, by omega⟩, by simp only; omega, rfl, rfl, rfl, rfl, rfl, trivial⟩

end Go.Proofs.Ytkipkplpmeholaa
