/- A type copied is that type. -/
import Derived.Test.YtlagglkpbnbmeaaGreatDoorShC
import Derived.Test.YtlagglkpbnbmeaaGreatDoorShZ
import Derived.Test.YtlagglkpbnbmeaaGreatDoorNt1
import Derived.Test.YtlagglkpbnbmeaaGreatDoorSH
namespace Go.Proofs.YtlagglkpbnbmeaaGreatDoor
open Go Go.RowKit
set_option maxRecDepth 100000
set_option linter.unusedVariables false

theorem take_snocT {α : Type} {l : List α} {i : Nat} {x : α} (h : l[i]? = some x) : l.take i ++ [x] = l.take (i + 1) := by
  have hi : i < l.length := by
    rcases Nat.lt_or_ge i l.length with h1 | h1
    · exact h1
    rw [List.getElem?_eq_none h1] at h; cases h
  rw [List.take_add_one, h]; rfl

theorem kKeepType : ∀ (m : Nat) (t : Ty), t.size ≤ m → m ≤ 10000000 → Con Tryz.prog 29 [.agg (tyE t)] [] (.agg (tyE t)) []
  | 0, t, h, _ => absurd t.size_pos (by omega)
  | m + 1, t, h, hm => by
    have hk := t.kids_lt; have hl := tysD_len (t.kids); refine gg [38,5,22,2001] ?_; refine u rfl rfl (r_alloc (x := 2002) (zs := [.int .i64 0, .int .i64 0, .slice none 0 0]) [.lit (.int .i64 0), .lit (.int .i64 0), .sl 3 []] rfl rfl rfl (by kernel_rfl) ⟨.refl _, .refl _, .nil _, trivial⟩) ?_; refine gg [0,9,4,2002,2001,2,1,5,6,0,1,7,6,1,1,7] ?_; refine u rfl rfl (r_build (zs := [.int .i64 0, .int .i64 0, .slice none 0 0]) (qs := [(0, 1), (1, 1), (2, 1)]) [.lit (.int .i64 0), .lit (.int .i64 0), .lit (.slice none 0 0)] rfl rfl (by kernel_rfl) (by kernel_rfl) ⟨.refl _, .refl _, .refl _, trivial⟩ rfl rfl) ?_; refine u rfl rfl (r_alloc (x := 2003) (zs := [.int .i64 0, .int .i64 0, .slice none 0 0]) [.lit (.int .i64 0), .lit (.int .i64 0), .sl 3 []] rfl rfl rfl (by kernel_rfl) ⟨.refl _, .refl _, .nil _, trivial⟩) ?_; refine gg [10,0,9,6,2003,2002,2001,3,2,1,31,31] ?_; refine J_turn (t_nilGh 2003 2 1050 26 3 rfl rfl (by kernel_rfl)) (by kernel_rfl) ?_
    refine gg [37,1,0,9,8,2003,2002,2001,1050,4,3,2,1,35] ?_; refine J_loopF (α := { i : Nat // i ≤ t.kids.length }) (fun p => [(4, .c (.lit (.int .i64 (p.1 : Int)))), (1050, .own 26 3 ((tysD t.kids).take p.1))]) [(1, _), (2, _), (3, _), (2001, _), (2002, _), (2003, _)] (fun p => t.kids.length - p.1) ⟨0, Nat.zero_le _⟩ ⟨rfl, rfl, rfl, rfl, rfl, rfl, rfl, rfl, trivial⟩ ?_; rintro ⟨i, hi⟩; dsimp only; refine gg [31,5,2,6,2,1,7,18] ?_; refine bL ?_ ?_
    · intro h14; obtain ⟨x, hx⟩ := get_some (l := t.kids) (i := i) (by omega); have hxs := Ty.kid_lt' hx; refine gg [0,9,13,2003,2002,2001,1050,14,13,12,11,10,4,3,2,1,32,34,31,35,37,6,2,1] ?_; refine u rfl rfl (r_loadOwn rfl rfl (by kernel_rfl) rfl rfl rfl rfl) ?_; refine gg [6,2,1,7,2] ?_; refine u rfl rfl (r_indexAddr (e := 26) (sz := 3) rfl rfl (by kernel_rfl) rfl rfl (by omega) (tysD_at hx)) ?_; refine gg [21,3] ?_; refine uC (kKeepType m x (by omega) (by omega)) ?_; refine u rfl rfl (r_buildSlice (e := 26) (sz := 3) (zs := [.int .i64 0, .int .i64 0, .slice none 0 0]) ([tyE x]) rfl rfl (by kernel_rfl) (by kernel_rfl) rfl rfl rfl rfl) ?_; refine u rfl rfl (r_append (e := 26) (sz := 3) (b := 40) rfl rfl (by kernel_rfl) rfl rfl (by simp only [List.length_take, List.length_cons, List.length_nil]; omega) (by simp only [List.length_take, List.length_cons, List.length_nil]; omega)) ?_
      refine gg [6,2,1] ?_; refine u rfl rfl (r_storeOwn 1050 rfl rfl (by kernel_rfl) rfl rfl rfl rfl (by kernel_rfl)) ?_; refine gg [4,9,22,2003,2002,2001,1050,27,25,24,23,22,21,20,19,17,14,13,12,11,10,4,3,2,1,37,2,27,1,0] ?_; have hsn : (tysD t.kids).take i ++ [tyE x] = (tysD t.kids).take (i + 1) := take_snocT (tysD_at hx); refine ⟨⟨i + 1, by omega⟩, by simp only; omega, rfl, ?_, rfl, rfl, rfl, rfl, rfl, rfl, trivial⟩
      show some (F.own _ _ ((tysD t.kids).take i ++ [tyE x])) = some (F.own _ _ ((tysD t.kids).take (i + 1)))
      rw [hsn]
    intro h14; refine gg [0,9,13,2003,2002,2001,1050,14,13,12,11,10,4,3,2,1,8,36,31] ?_; refine J_turn (t_ownC 1050 rfl) (by kernel_rfl) ?_; refine J_turn (t_wkV 2003 [.d (.lit (.int .i64 t.kind)), .d (.lit (.int .i64 t.num)), .d (.sl 3 ((tysD t.kids).take i))] rfl ⟨.refl _, .refl _, .gh rfl, trivial⟩) (by kernel_rfl) ?_; refine gg [37,20,3,10,0,9,2,2002,2,33] ?_; refine ⟨.inl rfl, _, rfl, .of ?_, trivial⟩; have e : (tysD t.kids).take i = tysD t.kids := List.take_of_length_le (by omega)
    show F.agg [_, _, .sl 3 ((tysD t.kids).take i)] = _
    rw [e]

end Go.Proofs.YtlagglkpbnbmeaaGreatDoor
