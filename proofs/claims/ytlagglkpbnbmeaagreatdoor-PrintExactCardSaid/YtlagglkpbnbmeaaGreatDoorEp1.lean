/- The program's reader of expressions: tests and takes. -/
import Derived.Test.YtlagglkpbnbmeaaGreatDoorShC
import Derived.Test.YtlagglkpbnbmeaaGreatDoorTX
import Derived.Test.YtlagglkpbnbmeaaGreatDoorShZ
import Derived.Test.YtlagglkpbnbmeaaGreatDoorEM
namespace Go.Proofs.YtlagglkpbnbmeaaGreatDoor
open Go Go.RowKit
set_option maxRecDepth 100000
set_option linter.unusedVariables false

def eRdr (ts : List Tok) (i : Nat) : F := .var 72 [.d (toksD ts), .d (.lit (.int .i64 (i : Int)))]
theorem toks_len {ts : List Tok} : (ts.map tokD).length = ts.length := List.length_map ..
theorem at_lt {ts : List Tok} {i k : Nat} {s : List UInt8} (h : ¬ i < ts.length) : at? ts i k s = false := hit_end (by omega)
theorem of_lt {ts : List Tok} {i k : Nat} (h : ¬ i < ts.length) : of? ts i k = false := by
  unfold of?; rw [List.getElem?_eq_none (by omega)]
theorem of_at {ts : List Tok} {i k : Nat} {x : Tok} (h : ts[i]? = some x) : of? ts i k = (x.k == k) := by
  unfold of?; rw [h]

theorem eIs (ts : List Tok) (i k : Nat) (s : List UInt8) (hm : ts.length ≤ 1000000000) : Con Tryz.prog 136 [.ptr 3000 0, .c (.lit (.int .i64 (k : Int))), .c (.lit (str s))] [(3000, eRdr ts i)] (.c (.lit (.bool (at? ts i k s)))) [(3000, eRdr ts i)] := by
  have hl := toks_len (ts := ts); refine gg [38,5,1,0,9,5,3000,6,2,1,0,5,2,13,6,1,1,7,2,13,6,0,1,7,18] ?_; refine bL ?_ ?_
  · intro h16; obtain ⟨x, hx⟩ : ∃ x, ts[i]? = some x := ⟨ts[i]'(by omega), List.getElem?_eq_getElem _⟩; refine gg [2,2,13,6,0,1,7,2,13,6,1,1,7] ?_; refine u rfl rfl (r_indexAddr (e := 76) (sz := 5) rfl rfl (by kernel_rfl) rfl rfl (by omega) (toksD_get hx)) ?_; refine gg [19,0,1,12,2] ?_; refine bE ?_ ?_
    · intro h30; refine gg [16,2,2,13,6,0,1,7,2,13,6,1,1,7] ?_; refine u rfl rfl (r_indexAddr (e := 76) (sz := 5) rfl rfl (by kernel_rfl) rfl rfl (by omega) (toksD_get hx)) ?_; refine gg [19,3,1,12,2] ?_; refine bS ?_ ?_
      · intro h45; refine gg [16,1,4,9,2,3000,6,33] ?_; exact ⟨.inl rfl, _, rfl, .ofB (by rw [at?, hit_at hx, h45, Bool.and_true]; exact beq_iff_eq.2 (by omega)), rfl, trivial⟩
      intro h45; refine gg [16,1,4,9,2,3000,6,33] ?_; exact ⟨.inl rfl, _, rfl, .ofB (by rw [at?, hit_at hx, h45, Bool.and_false]), rfl, trivial⟩
    intro h30; refine gg [16,2,39,13,17,1,4,9,2,3000,6,33] ?_; exact ⟨.inl rfl, _, rfl, .ofB (by rw [at?, hit_at hx, Bool.and_eq_false_iff]; exact .inl (beq_eq_false_iff_ne.2 (by omega))), rfl, trivial⟩
  intro h16; refine gg [2,39,13,17,2,39,13,17,1,4,9,2,3000,6,33] ?_; exact ⟨.inl rfl, _, rfl, .ofB (at_lt (by omega)), rfl, trivial⟩
theorem eOf (ts : List Tok) (i k : Nat) (hm : ts.length ≤ 1000000000) : Con Tryz.prog 137 [.ptr 3000 0, .c (.lit (.int .i64 (k : Int)))] [(3000, eRdr ts i)] (.c (.lit (.bool (of? ts i k)))) [(3000, eRdr ts i)] := by
  have hl := toks_len (ts := ts); refine gg [38,5,1,0,9,4,3000,4,1,0,5,2,13,6,1,1,7,2,13,6,0,1,7,18] ?_; refine bL ?_ ?_
  · intro h14; obtain ⟨x, hx⟩ : ∃ x, ts[i]? = some x := ⟨ts[i]'(by omega), List.getElem?_eq_getElem _⟩; refine gg [2,2,13,6,0,1,7,2,13,6,1,1,7] ?_; refine u rfl rfl (r_indexAddr (e := 76) (sz := 5) rfl rfl (by kernel_rfl) rfl rfl (by omega) (toksD_get hx)) ?_; refine gg [19,0,1,12,2] ?_; refine bE ?_ ?_
    · intro h28; refine gg [16,1,4,9,2,3000,4,33] ?_; exact ⟨.inl rfl, _, rfl, .ofB (by rw [of_at hx]; exact beq_iff_eq.2 (by omega)), rfl, trivial⟩
    intro h28; refine gg [16,1,4,9,2,3000,4,33] ?_; exact ⟨.inl rfl, _, rfl, .ofB (by rw [of_at hx]; exact beq_eq_false_iff_ne.2 (by omega)), rfl, trivial⟩
  intro h14; refine gg [2,39,13,17,1,4,9,2,3000,4,33] ?_; exact ⟨.inl rfl, _, rfl, .ofB (of_lt (by omega)), rfl, trivial⟩
theorem eTakesT (ts : List Tok) (i k : Nat) (s : List UInt8) (hm : ts.length ≤ 1000000000) (h : at? ts i k s = true) : Con Tryz.prog 113 [.ptr 3000 0, .c (.lit (.int .i64 (k : Int))), .c (.lit (str s))] [(3000, eRdr ts i)] (.c (.lit (.bool true))) [(3000, eRdr ts (i + 1))] := by
  have c := eIs ts i k s hm; rw [h] at c; have hlt := hit_lt h; refine gg [38,5,1,0,9,5,3000,6,2,1,0,31,5,2,2,2] ?_; refine gc (c) [0,9,4,3000,10,6,0,32,5,2,13,6,1,1,7,27,13,6,1,1,11,0,9,2,3000,6,5,1,0,9,2,3000,6,33] ?_; exact ⟨.inl rfl, _, rfl, .refl _, rfl, trivial⟩
theorem eTakesF (ts : List Tok) (i k : Nat) (s : List UInt8) (hm : ts.length ≤ 1000000000) (h : at? ts i k s = false) : Con Tryz.prog 113 [.ptr 3000 0, .c (.lit (.int .i64 (k : Int))), .c (.lit (str s))] [(3000, eRdr ts i)] (.c (.lit (.bool false))) [(3000, eRdr ts i)] := by
  have c := eIs ts i k s hm; rw [h] at c
  
  refine gg [38,5,1,0,9,5,3000,6,2,1,0,31,5,2,2,2] ?_; refine gc (c) [0,9,4,3000,10,6,0,8,34,5,1,0,9,2,3000,6,33] ?_; exact ⟨.inl rfl, _, rfl, .refl _, rfl, trivial⟩

end Go.Proofs.YtlagglkpbnbmeaaGreatDoor
