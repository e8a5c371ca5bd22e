/- The program's iterators over patterns and expressions. -/
import Derived.Test.YtlagglkpbnbmeaaGreatDoorShC
import Derived.Test.YtlagglkpbnbmeaaGreatDoorShZ
import Derived.Test.YtlagglkpbnbmeaaGreatDoorSh27
import Derived.Test.YtlagglkpbnbmeaaGreatDoorEp7
import Derived.Test.YtlagglkpbnbmeaaGreatDoorNt1
namespace Go.Proofs.YtlagglkpbnbmeaaGreatDoor
open Go Go.RowKit
set_option maxRecDepth 100000
set_option maxHeartbeats 2000000
set_option linter.unusedVariables false
set_option linter.unusedSimpArgs false

inductive PaK (n : Nat) : Pa → Prop
  | mk {k a b : Int} {nm : List UInt8} {m : Int} {s : List UInt8} {kids : List Pa} : nm.length ≤ n → s.length ≤ n → kids.length ≤ n → (∀ p, p ∈ kids → PaK n p) → PaK n (.mk k a b nm m s kids)
inductive ExK (n : Nat) : Ex → Prop
  | mk {k a b : Int} {nm arg : List UInt8} {m : Int} {s : List UInt8} {op : Int} {A B : Ty} {pats : List Pa} {kids : List Ex} : nm.length ≤ n → arg.length ≤ n → s.length ≤ n → A.size ≤ n → B.size ≤ n → pats.length ≤ 9223372036854775807 → kids.length ≤ n →
      (∀ p, p ∈ pats → PaK n p) → (∀ e, e ∈ kids → ExK n e) → ExK n (.mk k a b nm arg m s op A B pats kids)
mutual
def Pa.list : Pa → List Pa
  | .mk k a b nm n s kids => .mk k a b nm n s kids :: pasList kids
def pasList : List Pa → List Pa
  | [] => []
  | p :: r => p.list ++ pasList r
end
mutual
def Ex.list : Ex → List Ex
  | .mk k a b nm arg n s op A B pats kids => .mk k a b nm arg n s op A B pats kids :: exsList kids
def exsList : List Ex → List Ex
  | [] => []
  | e :: r => e.list ++ exsList r
end
def runL {α β : Type} (cont : α → β → Bool) (step : α → β → α) : α → List β → Bool × α
  | s, [] => (true, s)
  | s, y :: r => match cont s y with
    | true => runL cont step (step s y) r
    | false => (false, step s y)
theorem runL_append {α β : Type} {cont : α → β → Bool} {step : α → β → α} : ∀ (l r : List β) (s : α), runL cont step s (l ++ r) = match runL cont step s l with
    | (true, s') => runL cont step s' r
    | (false, s') => (false, s')
  | [], r, s => rfl
  | y :: l, r, s => by
    rw [List.cons_append, runL, runL]
    cases cont s y with
    | true => exact runL_append l r _
    | false => rfl
theorem pas_at3 {l : List Pa} {k : Nat} {x : Pa} (h : l[k]? = some x) : (pasD l)[((k : Nat) : Int).toNat]? = some (paX x) := by rw [pasD_map]; simp [h]
theorem exs_at3 {l : List Ex} {k : Nat} {x : Ex} (h : l[k]? = some x) : (exsD l)[((k : Nat) : Int).toNat]? = some (exX x) := by rw [exsD_map]; simp [h]
theorem pasD_len3 (l : List Pa) : (pasD l).length = l.length := by rw [pasD_map]; simp
theorem drop_get3 {α : Type} {l : List α} {i : Nat} {x : α} (h : l[i]? = some x) : l.drop i = x :: l.drop (i + 1) := by
  obtain ⟨h1, h2⟩ := List.getElem?_eq_some_iff.1 h; rw [List.drop_eq_getElem_cons h1, h2]
theorem get_some3 {α : Type} {l : List α} {i : Nat} (h : i < l.length) : ∃ x, l[i]? = some x := ⟨l[i], List.getElem?_eq_getElem h⟩
def erF (b : Bool) : F := .var 33 [.d (.lit (.int .i64 (if b then 0 else 1)))]
def mbF (m : Nat) : F := .var 92 [.d (.lit (.map (some m)))]

theorem gPats {n : Nat} (hn : n ≤ 1000000000) (mb : Nat) (C : List Nat → Value → Prop) (rec : Bool → Obj → Prop) (cont : List (List UInt8) → Pa → Bool) (step : List (List UInt8) → Pa → List (List UInt8))
    (hY : ∀ s y, PaK n y → ConV Tryz.prog [3000, 3001, 3002, 3003] C [.agg (paX y)] [(3001, erF true), (3002, mbF mb), (3003, seenF s), (3000, .ob (rec true))] (.c (.lit (.bool (cont s y)))) [(3001, erF (cont s y)), (3002, mbF mb), (3003, seenF (step s y)), (3000, .ob (rec (cont s y)))])
    {p : Pa} (hp : PaK n p) : ∀ z0, Con Tryz.prog 108 [.agg (paX p), .rel [3000, 3001, 3002, 3003] C] [(3001, erF true), (3002, mbF mb), (3003, seenF z0), (3000, .ob (rec true))] (.c (.lit (.bool (runL cont step z0 p.list).1))) [(3001, erF (runL cont step z0 p.list).1), (3002, mbF mb), (3003, seenF (runL cont step z0 p.list).2), (3000, .ob (rec (runL cont step z0 p.list).1))] := by
  induction hp with
  | @mk k0 a b nm m s kids h1 h2 hl hk ih =>
    intro z0; have hlen : (pasD ((Pa.mk k0 a b nm m s kids)).kids).length = kids.length := pasD_len3 kids; have hy0 := hY z0 (Pa.mk k0 a b nm m s kids) (.mk h1 h2 hl hk)
    generalize hM : runL cont step z0 (Pa.mk k0 a b nm m s kids).list = M
    rw [Pa.list, runL] at hM; refine gg [38,5,22,2002,1,0,9,8,3003,3002,3001,3000,2002,4,2,1,31,5,2,20,7] ?_
    rcases hc : cont z0 (Pa.mk k0 a b nm m s kids) with _ | _
    · rw [hc] at hy0 hM; refine u rfl rfl (r_yield (hy0) rfl rfl rfl rfl ⟨rfl, rfl, rfl, rfl, trivial⟩ (by kernel_rfl)) ?_; refine gg [15,0,9,9,3003,3002,3001,3000,2002,10,4,2,1,32,5,1,0,9,8,3003,3002,3001,3000,2002,4,2,1,33] ?_; subst hM; exact ⟨.inl rfl, _, rfl, .refl _, rfl, rfl, rfl, rfl, trivial⟩
    rw [hc] at hy0 hM; dsimp only at hM; refine u rfl rfl (r_yield (hy0) rfl rfl rfl rfl ⟨rfl, rfl, rfl, rfl, trivial⟩ (by kernel_rfl)) ?_; refine gg [15,0,9,9,3003,3002,3001,3000,2002,10,4,2,1,8,34,31,5,6,6,1,7,18,2,0,9,9,3003,3002,3001,3000,14,13,12,4,1,35] ?_; refine J_loopF (α := { q : Nat × List (List UInt8) // q.1 ≤ kids.length ∧ runL cont step (step z0 (Pa.mk k0 a b nm m s kids)) (pasList kids) = runL cont step q.2 (pasList (kids.drop q.1)) }) (fun p => [(14, .c (.lit (.int .i64 (p.1.1 : Int)))), (3003, seenF p.1.2)]) [(1, _), (4, _), (12, _), (13, _), (3000, _), (3001, _), (3002, _)] (fun p => kids.length - p.1.1) ⟨(0, step z0 (Pa.mk k0 a b nm m s kids)), Nat.zero_le _, rfl⟩ ⟨rfl, rfl, rfl, rfl, rfl, rfl, rfl, rfl, rfl, trivial⟩ ?_; rintro ⟨⟨i, s1⟩, hi, hI⟩; dsimp only at hi hI ⊢; refine js ?_; refine bL ?_ ?_
    · intro h15; obtain ⟨x, hx⟩ := get_some3 (l := kids) (i := i) (by omega); have hi0 := ih x (List.mem_of_getElem? hx) s1; rw [drop_get3 hx, pasList, runL_append] at hI; refine gg [0,9,10,3003,3002,3001,3000,15,14,13,12,4,1,31,32,34,31,35,5] ?_; refine u rfl rfl (r_indexAddr (e := 40) (sz := 7) rfl rfl (by kernel_rfl) rfl rfl (by omega) (pas_at3 hx)) ?_; refine gg [21,7,24,2006,10,0,9,14,3003,3002,3001,3000,2006,17,16,15,14,13,12,6,4,1,5,20,7,2] ?_
      rcases hx2 : runL cont step s1 x.list with ⟨_ | _, s2⟩
      · rw [hx2] at hi0 hI; dsimp only at hi0 hI; refine u rfl rfl (r_call (hi0) rfl rfl rfl ⟨rfl, rfl, rfl, rfl, trivial⟩ (by kernel_rfl)) ?_; refine gg [15,0,9,18,3003,3002,3001,3000,2006,21,20,19,18,17,16,15,14,13,12,6,4,1,32,5,1,0,9,18,3003,3002,3001,3000,2006,21,20,19,18,17,16,15,14,13,12,6,4,1,33] ?_; rw [hI] at hM; subst hM; exact ⟨.inl rfl, _, rfl, .refl _, rfl, rfl, rfl, rfl, trivial⟩
      rw [hx2] at hi0 hI; dsimp only at hi0 hI; refine u rfl rfl (r_call (hi0) rfl rfl rfl ⟨rfl, rfl, rfl, rfl, trivial⟩ (by kernel_rfl)) ?_; refine gg [15,0,9,18,3003,3002,3001,3000,2006,21,20,19,18,17,16,15,14,13,12,6,4,1,8,34,37,27,2,0] ?_; refine ⟨⟨(i + 1, s2), by dsimp only; omega, by dsimp only; exact hI⟩, by dsimp only; omega, rfl, rfl, rfl, rfl, rfl, rfl, rfl, rfl, rfl, trivial⟩
    intro h15; refine gg [0,9,10,3003,3002,3001,3000,15,14,13,12,4,1,31,8,36,5,1,0,9,5,3003,3002,3001,3000,4,33] ?_; rw [List.drop_eq_nil_of_le (by omega), pasList, runL] at hI; rw [hI] at hM; subst hM; exact ⟨.inl rfl, _, rfl, .refl _, rfl, rfl, rfl, rfl, trivial⟩

theorem gExprs {n : Nat} (hn : n ≤ 1000000000) (C : List Nat → Value → Prop) (rec : Bool → Obj → Prop) (cont : Unit → Ex → Bool) (step : Unit → Ex → Unit)
    (hY : ∀ s y, ExK n y → ConV Tryz.prog [3000, 3001] C [.agg (exX y)] [(3001, erF true), (3000, .ob (rec true))] (.c (.lit (.bool (cont s y)))) [(3001, erF (cont s y)), (3000, .ob (rec (cont s y)))])
    {p : Ex} (hp : ExK n p) : ∀ z0, Con Tryz.prog 94 [.agg (exX p), .rel [3000, 3001] C] [(3001, erF true), (3000, .ob (rec true))] (.c (.lit (.bool (runL cont step z0 p.list).1))) [(3001, erF (runL cont step z0 p.list).1), (3000, .ob (rec (runL cont step z0 p.list).1))] := by
  induction hp with
  | @mk k0 a b nm arg m s op A B pats kids h1 h2 h3 h4 h5 h6 hl hp hk ih =>
    intro z0; have hlen : (exsD ((Ex.mk k0 a b nm arg m s op A B pats kids)).kids).length = kids.length := exsD_len kids; have hy0 := hY z0 (Ex.mk k0 a b nm arg m s op A B pats kids) (.mk h1 h2 h3 h4 h5 h6 hl hp hk)
    generalize hM : runL cont step z0 (Ex.mk k0 a b nm arg m s op A B pats kids).list = M
    rw [Ex.list, runL] at hM; refine gg [38,5,22,2002,1,0,9,6,3001,3000,2002,4,2,1,31,5,2,20,16] ?_
    rcases hc : cont z0 (Ex.mk k0 a b nm arg m s op A B pats kids) with _ | _
    · rw [hc] at hy0 hM; refine u rfl rfl (r_yield (hy0) rfl rfl rfl rfl ⟨rfl, rfl, trivial⟩ (by kernel_rfl)) ?_; refine gg [15,0,9,7,3001,3000,2002,10,4,2,1,32,5,1,0,9,6,3001,3000,2002,4,2,1,33] ?_; subst hM; exact ⟨.inl rfl, _, rfl, .refl _, rfl, rfl, trivial⟩
    rw [hc] at hy0 hM; dsimp only at hM; refine u rfl rfl (r_yield (hy0) rfl rfl rfl rfl ⟨rfl, rfl, trivial⟩ (by kernel_rfl)) ?_; refine gg [15,0,9,7,3001,3000,2002,10,4,2,1,8,34,31,5,6,15,1,7,18,2,0,9,7,3001,3000,14,13,12,4,1,35] ?_; refine J_loopF (α := { q : Nat × Unit // q.1 ≤ kids.length ∧ runL cont step (step z0 (Ex.mk k0 a b nm arg m s op A B pats kids)) (exsList kids) = runL cont step q.2 (exsList (kids.drop q.1)) }) (fun p => [(14, .c (.lit (.int .i64 (p.1.1 : Int))))]) [(1, _), (4, _), (12, _), (13, _), (3000, _), (3001, _)] (fun p => kids.length - p.1.1) ⟨(0, step z0 (Ex.mk k0 a b nm arg m s op A B pats kids)), Nat.zero_le _, rfl⟩ ⟨rfl, rfl, rfl, rfl, rfl, rfl, rfl, trivial⟩ ?_; rintro ⟨⟨i, s1⟩, hi, hI⟩; dsimp only at hi hI ⊢; refine js ?_; refine bL ?_ ?_
    · intro h15; obtain ⟨x, hx⟩ := get_some3 (l := kids) (i := i) (by omega); have hi0 := ih x (List.mem_of_getElem? hx) s1; rw [drop_get3 hx, exsList, runL_append] at hI; refine gg [0,9,8,3001,3000,15,14,13,12,4,1,31,32,34,31,35,5] ?_; refine u rfl rfl (r_indexAddr (e := 30) (sz := 16) rfl rfl (by kernel_rfl) rfl rfl (by omega) (exs_at3 hx)) ?_; refine gg [21,16,23,2006,10,0,9,12,3001,3000,2006,17,16,15,14,13,12,6,4,1,5,20,16,2] ?_
      rcases hx2 : runL cont step s1 x.list with ⟨_ | _, s2⟩
      · rw [hx2] at hi0 hI; dsimp only at hi0 hI; refine gc (hi0) [15,0,9,16,3001,3000,2006,21,20,19,18,17,16,15,14,13,12,6,4,1,32,5,1,0,9,16,3001,3000,2006,21,20,19,18,17,16,15,14,13,12,6,4,1,33] ?_; rw [hI] at hM; subst hM; exact ⟨.inl rfl, _, rfl, .refl _, rfl, rfl, trivial⟩
      rw [hx2] at hi0 hI; dsimp only at hi0 hI; refine gc (hi0) [15,0,9,16,3001,3000,2006,21,20,19,18,17,16,15,14,13,12,6,4,1,8,34,37,27,2,0] ?_; refine ⟨⟨(i + 1, s2), by dsimp only; omega, by dsimp only; exact hI⟩, by dsimp only; omega, rfl, rfl, rfl, rfl, rfl, rfl, rfl, trivial⟩
    intro h15; refine gg [0,9,8,3001,3000,15,14,13,12,4,1,31,8,36,5,1,0,9,3,3001,3000,4,33] ?_; rw [List.drop_eq_nil_of_le (by omega), exsList, runL] at hI; rw [hI] at hM; subst hM; exact ⟨.inl rfl, _, rfl, .refl _, rfl, rfl, trivial⟩

end Go.Proofs.YtlagglkpbnbmeaaGreatDoor
