/- The program's tree: what is right of one pattern; patterns. -/
import Derived.Test.YtlagglkpbnbmeaaGreatDoorShC
import Derived.Test.YtlagglkpbnbmeaaGreatDoorShZ
import Derived.Test.YtlagglkpbnbmeaaGreatDoorRi1
import Derived.Test.YtlagglkpbnbmeaaGreatDoorEw
namespace Go.Proofs.YtlagglkpbnbmeaaGreatDoor
open Go Go.RowKit
set_option maxRecDepth 100000
set_option maxHeartbeats 4000000
set_option linter.unusedVariables false
set_option linter.unusedSimpArgs false

theorem wName (s : List UInt8) (hs : s.length ≤ 1000000000) : Con Tryz.prog 96 [.c (.lit (str s))] [] (.c (.lit (.bool (mName s)))) [] := by
  refine con_below (by simp [Flat]) trivial (by simp) fun S w args B hsz harg hS htt hB => ?_
  have h0 := harg 0 _ rfl; have hargs : args = #[str s] := by
    apply Array.ext
    · simpa using hsz
    intro i h1 h2; have : i = 0 := by simp at h2; omega
    subst this; have h3 : args.getD 0 undef = str s := lit_val (ρ := fun _ => 0) (show FV S _ w (.c (.lit (str s))) _ from h0); simp only [Array.getD_eq_getD_getElem?, Array.getElem?_eq_getElem h1, Option.getD_some] at h3; rw [h3]; rfl
  rw [hargs]; refine (wordName_any s w (by omega)).mono ?_; rintro e w' ⟨rfl, rfl⟩; exact ⟨_, rfl, Below.refl _ _, fun S' _ _ => .lit _ rfl⟩
def paSh (k : Int) : Option (Bool × Bool × Bool × Nat) :=
  if k = 1 ∨ k = 6 ∨ k = 8 then some (false, false, false, 0) else if k = 2 then some (true, false, false, 0) else if k = 3 ∨ k = 4 then some (false, true, false, 0)
  else if k = 5 then some (false, false, true, 0) else if k = 7 ∨ k = 9 then some (false, false, false, 2) else none
def okPa (p : Pa) : Bool := match paSh p.kind with
  | none => false
  | some (a, b, c, d) => (if a then mName p.nm else decide (p.nm = [])) && (b || decide (p.n = 0)) && (decide (p.kind ≠ 4) || decide (p.n = 0) || decide (p.n = 1)) && (if c then decide (p.s.length ≤ 200) else decide (p.s = [])) && decide (p.kids.length = d)

theorem tOnePat {n : Nat} (hn : n ≤ 1000000000) {p : Pa} (hp : PaK n p) : Con Tryz.prog 68 [.agg (paX p)] [] (.c (.lit (.bool (okPa p)))) [] := by
  have hl := pasD_len3 p.kids; have hnm : p.nm.length ≤ n := by cases hp; assumption
  have hsl : p.s.length ≤ n := by cases hp; assumption
  refine gg [38,5,22,2001,1,0,9,3,2001,2,1,5,6,0,1,7,6,1,2,20,2,6,6,1,7] ?_; refine u rfl rfl (r_build (zs := zp) (qs := [(0, 1), (1, 2), (3, 1), (4, 1), (5, 1), (6, 1)]) dp rfl rfl (by kernel_rfl) (by kernel_rfl) kp rfl rfl) ?_; refine gg [24,2003,10,1,0,9,6,2003,2001,4,3,2,1,31,5,6,0,1,7,0,9,7,2003,2001,13,4,3,2,1,35,31,5] ?_; refine bE ?_ ?_
  · intro h15; refine gg [1,0,9,8,2003,2001,14,13,4,3,2,1,32,34,32,34,5,6,6,1,7,18,2] ?_; refine bE ?_ ?_
    · intro h61; refine gg [2,6,3,1,7,6,3,1,7] ?_; refine bS ?_ ?_
      · intro h67; refine gg [16,2,6,4,1,7,6,4,1,7] ?_; refine bE ?_ ?_
        · intro h74; refine gg [16,2,6,5,1,7,6,5,1,7] ?_; refine bS ?_ ?_
          · intro h81; refine gg [16,1,0,9,1,2,33] ?_; refine ⟨.inl rfl, _, rfl, .ofB ?_, trivial⟩; replace h74 := h74.symm; first | (simp_all [okPa, paSh]; done) | (simp_all [okPa, paSh]; omega)
          intro h81; refine gg [16,1,0,9,1,2,33] ?_; refine ⟨.inl rfl, _, rfl, .ofB ?_, trivial⟩; replace h74 := h74.symm; first | (simp_all [okPa, paSh]; done) | (simp_all [okPa, paSh]; omega)
        intro h74; refine gg [16,2,39,5,17,1,0,9,1,2,33] ?_; refine ⟨.inl rfl, _, rfl, .ofB ?_, trivial⟩; first | (simp_all [okPa, paSh]; done) | (simp_all [okPa, paSh]; omega)
      intro h67; refine gg [16,2,39,5,17,2,39,5,17,1,0,9,1,2,33] ?_; refine ⟨.inl rfl, _, rfl, .ofB ?_, trivial⟩; first | (simp_all [okPa, paSh]; done) | (simp_all [okPa, paSh]; omega)
    intro h61; refine gg [2,39,5,17,2,39,5,17,2,39,5,17,1,0,9,1,2,33] ?_; refine ⟨.inl rfl, _, rfl, .ofB ?_, trivial⟩; first | (simp_all [okPa, paSh]; done) | (simp_all [okPa, paSh]; omega)
  intro h15; refine gg [1,0,9,8,2003,2001,14,13,4,3,2,1,8,5] ?_; refine bE ?_ ?_
  · intro h16; refine gg [1,0,9,8,2003,2001,14,13,4,3,2,1,32,34,32,34,5,6,6,1,7,18,2] ?_; refine bE ?_ ?_
    · intro h61; refine gg [2,6,3,1,7,6,3,1,7] ?_; refine bS ?_ ?_
      · intro h67; refine gg [16,2,6,4,1,7,6,4,1,7] ?_; refine bE ?_ ?_
        · intro h74; refine gg [16,2,6,5,1,7,6,5,1,7] ?_; refine bS ?_ ?_
          · intro h81; refine gg [16,1,0,9,1,2,33] ?_; refine ⟨.inl rfl, _, rfl, .ofB ?_, trivial⟩; replace h74 := h74.symm; first | (simp_all [okPa, paSh]; done) | (simp_all [okPa, paSh]; omega)
          intro h81; refine gg [16,1,0,9,1,2,33] ?_; refine ⟨.inl rfl, _, rfl, .ofB ?_, trivial⟩; replace h74 := h74.symm; first | (simp_all [okPa, paSh]; done) | (simp_all [okPa, paSh]; omega)
        intro h74; refine gg [16,2,39,5,17,1,0,9,1,2,33] ?_; refine ⟨.inl rfl, _, rfl, .ofB ?_, trivial⟩; first | (simp_all [okPa, paSh]; done) | (simp_all [okPa, paSh]; omega)
      intro h67; refine gg [16,2,39,5,17,2,39,5,17,1,0,9,1,2,33] ?_; refine ⟨.inl rfl, _, rfl, .ofB ?_, trivial⟩; first | (simp_all [okPa, paSh]; done) | (simp_all [okPa, paSh]; omega)
    intro h61; refine gg [2,39,5,17,2,39,5,17,2,39,5,17,1,0,9,1,2,33] ?_; refine ⟨.inl rfl, _, rfl, .ofB ?_, trivial⟩; first | (simp_all [okPa, paSh]; done) | (simp_all [okPa, paSh]; omega)
  intro h16; refine gg [1,0,9,8,2003,2001,14,13,4,3,2,1,8,37] ?_; refine bE ?_ ?_
  · intro h17; refine gg [1,0,9,8,2003,2001,14,13,4,3,2,1,32,34,5,6,6,1,7,18,2] ?_; refine bE ?_ ?_
    · intro h61; refine gg [2,6,3,1,7,6,3,1,7] ?_; refine bS ?_ ?_
      · intro h67; refine gg [16,2,6,4,1,7,6,4,1,7] ?_; refine bE ?_ ?_
        · intro h74; refine gg [16,2,6,5,1,7,6,5,1,7] ?_; refine bS ?_ ?_
          · intro h81; refine gg [16,1,0,9,1,2,33] ?_; refine ⟨.inl rfl, _, rfl, .ofB ?_, trivial⟩; replace h74 := h74.symm; first | (simp_all [okPa, paSh]; done) | (simp_all [okPa, paSh]; omega)
          intro h81; refine gg [16,1,0,9,1,2,33] ?_; refine ⟨.inl rfl, _, rfl, .ofB ?_, trivial⟩; replace h74 := h74.symm; first | (simp_all [okPa, paSh]; done) | (simp_all [okPa, paSh]; omega)
        intro h74; refine gg [16,2,39,5,17,1,0,9,1,2,33] ?_; refine ⟨.inl rfl, _, rfl, .ofB ?_, trivial⟩; first | (simp_all [okPa, paSh]; done) | (simp_all [okPa, paSh]; omega)
      intro h67; refine gg [16,2,39,5,17,2,39,5,17,1,0,9,1,2,33] ?_; refine ⟨.inl rfl, _, rfl, .ofB ?_, trivial⟩; first | (simp_all [okPa, paSh]; done) | (simp_all [okPa, paSh]; omega)
    intro h61; refine gg [2,39,5,17,2,39,5,17,2,39,5,17,1,0,9,1,2,33] ?_; refine ⟨.inl rfl, _, rfl, .ofB ?_, trivial⟩; first | (simp_all [okPa, paSh]; done) | (simp_all [okPa, paSh]; omega)
  intro h17; refine gg [1,0,9,8,2003,2001,14,13,4,3,2,1,8,5] ?_; refine bE ?_ ?_
  · intro h19; refine gg [1,0,9,8,2003,2001,18,13,4,3,2,1,32,5,6,3,1,7,6,3,1,11,0,9,6,2003,2001,4,3,2,1,5,6,3,1,7] ?_; refine JR.runC rfl rfl (cl (wName p.nm (by omega))) rfl ?_ ?_
    · intro h25; refine gg [15,0,9,7,2003,2001,26,4,3,2,1,8,34,5,6,6,1,7,18,2] ?_; refine bE ?_ ?_
      · intro h61; refine gg [2,6,3,1,7,6,3,1,7] ?_; refine bS ?_ ?_
        · intro h67; refine gg [16,2,6,4,1,7,6,4,1,7] ?_; refine bE ?_ ?_
          · intro h74; refine gg [16,2,6,5,1,7,6,5,1,7] ?_; refine bS ?_ ?_
            · intro h81; refine gg [16,1,0,9,1,2,33] ?_; refine ⟨.inl rfl, _, rfl, .ofB ?_, trivial⟩; replace h74 := h74.symm; first | (simp_all [okPa, paSh]; done) | (simp_all [okPa, paSh]; omega)
            intro h81; refine gg [16,1,0,9,1,2,33] ?_; refine ⟨.inl rfl, _, rfl, .ofB ?_, trivial⟩; replace h74 := h74.symm; first | (simp_all [okPa, paSh]; done) | (simp_all [okPa, paSh]; omega)
          intro h74; refine gg [16,2,39,5,17,1,0,9,1,2,33] ?_; refine ⟨.inl rfl, _, rfl, .ofB ?_, trivial⟩; first | (simp_all [okPa, paSh]; done) | (simp_all [okPa, paSh]; omega)
        intro h67; refine gg [16,2,39,5,17,2,39,5,17,1,0,9,1,2,33] ?_; refine ⟨.inl rfl, _, rfl, .ofB ?_, trivial⟩; first | (simp_all [okPa, paSh]; done) | (simp_all [okPa, paSh]; omega)
      intro h61; refine gg [2,39,5,17,2,39,5,17,2,39,5,17,1,0,9,1,2,33] ?_; refine ⟨.inl rfl, _, rfl, .ofB ?_, trivial⟩; first | (simp_all [okPa, paSh]; done) | (simp_all [okPa, paSh]; omega)
    intro h25; refine gg [15,0,9,7,2003,2001,26,4,3,2,1,32,5,1,0,9,6,2003,2001,4,3,2,1,33] ?_; refine ⟨.inl rfl, _, rfl, .ofB ?_, trivial⟩; first | (simp_all [okPa, paSh]; done) | (simp_all [okPa, paSh]; omega)
  intro h19; refine gg [1,0,9,8,2003,2001,18,13,4,3,2,1,8,5] ?_; refine bE ?_ ?_
  · intro h28; refine gg [1,0,9,8,2003,2001,27,13,4,3,2,1,32,37,6,4,1,7,6,4,1,11,0,9,6,2003,2001,4,3,2,1,5,6,6,1,7,18,2] ?_; refine bE ?_ ?_
    · intro h61; refine gg [2,6,3,1,7,6,3,1,7] ?_; refine bS ?_ ?_
      · intro h67; refine gg [16,2,6,4,1,7,6,4,1,7] ?_; refine bE ?_ ?_
        · intro h74; refine gg [16,2,6,5,1,7,6,5,1,7] ?_; refine bS ?_ ?_
          · intro h81; refine gg [16,1,0,9,1,2,33] ?_; refine ⟨.inl rfl, _, rfl, .ofB ?_, trivial⟩; replace h74 := h74.symm; first | (simp_all [okPa, paSh]; done) | (simp_all [okPa, paSh]; omega)
          intro h81; refine gg [16,1,0,9,1,2,33] ?_; refine ⟨.inl rfl, _, rfl, .ofB ?_, trivial⟩; replace h74 := h74.symm; first | (simp_all [okPa, paSh]; done) | (simp_all [okPa, paSh]; omega)
        intro h74; refine gg [16,2,39,5,17,1,0,9,1,2,33] ?_; refine ⟨.inl rfl, _, rfl, .ofB ?_, trivial⟩; first | (simp_all [okPa, paSh]; done) | (simp_all [okPa, paSh]; omega)
      intro h67; refine gg [16,2,39,5,17,2,39,5,17,1,0,9,1,2,33] ?_; refine ⟨.inl rfl, _, rfl, .ofB ?_, trivial⟩; first | (simp_all [okPa, paSh]; done) | (simp_all [okPa, paSh]; omega)
    intro h61; refine gg [2,39,5,17,2,39,5,17,2,39,5,17,1,0,9,1,2,33] ?_; refine ⟨.inl rfl, _, rfl, .ofB ?_, trivial⟩; first | (simp_all [okPa, paSh]; done) | (simp_all [okPa, paSh]; omega)
  intro h28; refine gg [1,0,9,8,2003,2001,27,13,4,3,2,1,8,5] ?_; refine bE ?_ ?_
  · intro h33; refine gg [1,0,9,8,2003,2001,32,13,4,3,2,1,32,5,6,4,1,7,6,4,1,11,0,9,6,2003,2001,4,3,2,1,5,6,4,1,7] ?_; refine bN ?_ ?_
    · intro h39; refine gg [2,6,4,1,7] ?_; refine bN ?_ ?_
      · intro h43; refine gg [16,0,9,7,2003,2001,44,4,3,2,1,32,5,1,0,9,6,2003,2001,4,3,2,1,33] ?_; refine ⟨.inl rfl, _, rfl, .ofB ?_, trivial⟩; first | (simp_all [okPa, paSh]; done) | (simp_all [okPa, paSh]; omega)
      intro h43; refine gg [16,0,9,7,2003,2001,44,4,3,2,1,8,34,5,6,6,1,7,18,2] ?_; refine bE ?_ ?_
      · intro h61; refine gg [2,6,3,1,7,6,3,1,7] ?_; refine bS ?_ ?_
        · intro h67; refine gg [16,2,6,4,1,7,6,4,1,7] ?_; refine bE ?_ ?_
          · intro h74; refine gg [16,2,6,5,1,7,6,5,1,7] ?_; refine bS ?_ ?_
            · intro h81; refine gg [16,1,0,9,1,2,33] ?_; refine ⟨.inl rfl, _, rfl, .ofB ?_, trivial⟩; replace h74 := h74.symm; first | (simp_all [okPa, paSh]; done) | (simp_all [okPa, paSh]; omega)
            intro h81; refine gg [16,1,0,9,1,2,33] ?_; refine ⟨.inl rfl, _, rfl, .ofB ?_, trivial⟩; replace h74 := h74.symm; first | (simp_all [okPa, paSh]; done) | (simp_all [okPa, paSh]; omega)
          intro h74; refine gg [16,2,39,5,17,1,0,9,1,2,33] ?_; refine ⟨.inl rfl, _, rfl, .ofB ?_, trivial⟩; first | (simp_all [okPa, paSh]; done) | (simp_all [okPa, paSh]; omega)
        intro h67; refine gg [16,2,39,5,17,2,39,5,17,1,0,9,1,2,33] ?_; refine ⟨.inl rfl, _, rfl, .ofB ?_, trivial⟩; first | (simp_all [okPa, paSh]; done) | (simp_all [okPa, paSh]; omega)
      intro h61; refine gg [2,39,5,17,2,39,5,17,2,39,5,17,1,0,9,1,2,33] ?_; refine ⟨.inl rfl, _, rfl, .ofB ?_, trivial⟩; first | (simp_all [okPa, paSh]; done) | (simp_all [okPa, paSh]; omega)
    intro h39; refine gg [2,39,3,17,0,9,7,2003,2001,44,4,3,2,1,8,34,5,6,6,1,7,18,2] ?_; refine bE ?_ ?_
    · intro h61; refine gg [2,6,3,1,7,6,3,1,7] ?_; refine bS ?_ ?_
      · intro h67; refine gg [16,2,6,4,1,7,6,4,1,7] ?_; refine bE ?_ ?_
        · intro h74; refine gg [16,2,6,5,1,7,6,5,1,7] ?_; refine bS ?_ ?_
          · intro h81; refine gg [16,1,0,9,1,2,33] ?_; refine ⟨.inl rfl, _, rfl, .ofB ?_, trivial⟩; replace h74 := h74.symm; first | (simp_all [okPa, paSh]; done) | (simp_all [okPa, paSh]; omega)
          intro h81; refine gg [16,1,0,9,1,2,33] ?_; refine ⟨.inl rfl, _, rfl, .ofB ?_, trivial⟩; replace h74 := h74.symm; first | (simp_all [okPa, paSh]; done) | (simp_all [okPa, paSh]; omega)
        intro h74; refine gg [16,2,39,5,17,1,0,9,1,2,33] ?_; refine ⟨.inl rfl, _, rfl, .ofB ?_, trivial⟩; first | (simp_all [okPa, paSh]; done) | (simp_all [okPa, paSh]; omega)
      intro h67; refine gg [16,2,39,5,17,2,39,5,17,1,0,9,1,2,33] ?_; refine ⟨.inl rfl, _, rfl, .ofB ?_, trivial⟩; first | (simp_all [okPa, paSh]; done) | (simp_all [okPa, paSh]; omega)
    intro h61; refine gg [2,39,5,17,2,39,5,17,2,39,5,17,1,0,9,1,2,33] ?_; refine ⟨.inl rfl, _, rfl, .ofB ?_, trivial⟩; first | (simp_all [okPa, paSh]; done) | (simp_all [okPa, paSh]; omega)
  intro h33; refine gg [1,0,9,8,2003,2001,32,13,4,3,2,1,8,5] ?_; refine bE ?_ ?_
  · intro h46; refine gg [1,0,9,8,2003,2001,45,13,4,3,2,1,32,5,6,5,1,7,6,5,1,11,0,9,6,2003,2001,4,3,2,1,5,6,5,1,7,30] ?_; refine bG ?_ ?_
    · intro h53; refine gg [0,9,7,2003,2001,53,4,3,2,1,32,5,1,0,9,6,2003,2001,4,3,2,1,33] ?_; refine ⟨.inl rfl, _, rfl, .ofB ?_, trivial⟩; first | (simp_all [okPa, paSh]; done) | (simp_all [okPa, paSh]; omega)
    intro h53; refine gg [0,9,7,2003,2001,53,4,3,2,1,8,34,5,6,6,1,7,18,2] ?_; refine bE ?_ ?_
    · intro h61; refine gg [2,6,3,1,7,6,3,1,7] ?_; refine bS ?_ ?_
      · intro h67; refine gg [16,2,6,4,1,7,6,4,1,7] ?_; refine bE ?_ ?_
        · intro h74; refine gg [16,2,6,5,1,7,6,5,1,7] ?_; refine bS ?_ ?_
          · intro h81; refine gg [16,1,0,9,1,2,33] ?_; refine ⟨.inl rfl, _, rfl, .ofB ?_, trivial⟩; replace h74 := h74.symm; first | (simp_all [okPa, paSh]; done) | (simp_all [okPa, paSh]; omega)
          intro h81; refine gg [16,1,0,9,1,2,33] ?_; refine ⟨.inl rfl, _, rfl, .ofB ?_, trivial⟩; replace h74 := h74.symm; first | (simp_all [okPa, paSh]; done) | (simp_all [okPa, paSh]; omega)
        intro h74; refine gg [16,2,39,5,17,1,0,9,1,2,33] ?_; refine ⟨.inl rfl, _, rfl, .ofB ?_, trivial⟩; first | (simp_all [okPa, paSh]; done) | (simp_all [okPa, paSh]; omega)
      intro h67; refine gg [16,2,39,5,17,2,39,5,17,1,0,9,1,2,33] ?_; refine ⟨.inl rfl, _, rfl, .ofB ?_, trivial⟩; first | (simp_all [okPa, paSh]; done) | (simp_all [okPa, paSh]; omega)
    intro h61; refine gg [2,39,5,17,2,39,5,17,2,39,5,17,1,0,9,1,2,33] ?_; refine ⟨.inl rfl, _, rfl, .ofB ?_, trivial⟩; first | (simp_all [okPa, paSh]; done) | (simp_all [okPa, paSh]; omega)
  intro h46; refine gg [1,0,9,8,2003,2001,45,13,4,3,2,1,8,31,5] ?_; refine bE ?_ ?_
  · intro h55; refine gg [1,0,9,8,2003,2001,54,13,4,3,2,1,32,34,32,37,1,0,9,6,2003,2001,4,3,2,1,5,6,6,1,7,18,2] ?_; refine bE ?_ ?_
    · intro h61; refine gg [2,6,3,1,7,6,3,1,7] ?_; refine bS ?_ ?_
      · intro h67; refine gg [16,2,6,4,1,7,6,4,1,7] ?_; refine bE ?_ ?_
        · intro h74; refine gg [16,2,6,5,1,7,6,5,1,7] ?_; refine bS ?_ ?_
          · intro h81; refine gg [16,1,0,9,1,2,33] ?_; refine ⟨.inl rfl, _, rfl, .ofB ?_, trivial⟩; replace h74 := h74.symm; first | (simp_all [okPa, paSh]; done) | (simp_all [okPa, paSh]; omega)
          intro h81; refine gg [16,1,0,9,1,2,33] ?_; refine ⟨.inl rfl, _, rfl, .ofB ?_, trivial⟩; replace h74 := h74.symm; first | (simp_all [okPa, paSh]; done) | (simp_all [okPa, paSh]; omega)
        intro h74; refine gg [16,2,39,5,17,1,0,9,1,2,33] ?_; refine ⟨.inl rfl, _, rfl, .ofB ?_, trivial⟩; first | (simp_all [okPa, paSh]; done) | (simp_all [okPa, paSh]; omega)
      intro h67; refine gg [16,2,39,5,17,2,39,5,17,1,0,9,1,2,33] ?_; refine ⟨.inl rfl, _, rfl, .ofB ?_, trivial⟩; first | (simp_all [okPa, paSh]; done) | (simp_all [okPa, paSh]; omega)
    intro h61; refine gg [2,39,5,17,2,39,5,17,2,39,5,17,1,0,9,1,2,33] ?_; refine ⟨.inl rfl, _, rfl, .ofB ?_, trivial⟩; first | (simp_all [okPa, paSh]; done) | (simp_all [okPa, paSh]; omega)
  intro h55; refine gg [1,0,9,8,2003,2001,54,13,4,3,2,1,8,37] ?_; refine bE ?_ ?_
  · intro h56; refine gg [1,0,9,7,2003,2001,54,4,3,2,1,32,37,1,0,9,6,2003,2001,4,3,2,1,5,6,6,1,7,18,2] ?_; refine bE ?_ ?_
    · intro h61; refine gg [2,6,3,1,7,6,3,1,7] ?_; refine bS ?_ ?_
      · intro h67; refine gg [16,2,6,4,1,7,6,4,1,7] ?_; refine bE ?_ ?_
        · intro h74; refine gg [16,2,6,5,1,7,6,5,1,7] ?_; refine bS ?_ ?_
          · intro h81; refine gg [16,1,0,9,1,2,33] ?_; refine ⟨.inl rfl, _, rfl, .ofB ?_, trivial⟩; replace h74 := h74.symm; first | (simp_all [okPa, paSh]; done) | (simp_all [okPa, paSh]; omega)
          intro h81; refine gg [16,1,0,9,1,2,33] ?_; refine ⟨.inl rfl, _, rfl, .ofB ?_, trivial⟩; replace h74 := h74.symm; first | (simp_all [okPa, paSh]; done) | (simp_all [okPa, paSh]; omega)
        intro h74; refine gg [16,2,39,5,17,1,0,9,1,2,33] ?_; refine ⟨.inl rfl, _, rfl, .ofB ?_, trivial⟩; first | (simp_all [okPa, paSh]; done) | (simp_all [okPa, paSh]; omega)
      intro h67; refine gg [16,2,39,5,17,2,39,5,17,1,0,9,1,2,33] ?_; refine ⟨.inl rfl, _, rfl, .ofB ?_, trivial⟩; first | (simp_all [okPa, paSh]; done) | (simp_all [okPa, paSh]; omega)
    intro h61; refine gg [2,39,5,17,2,39,5,17,2,39,5,17,1,0,9,1,2,33] ?_; refine ⟨.inl rfl, _, rfl, .ofB ?_, trivial⟩; first | (simp_all [okPa, paSh]; done) | (simp_all [okPa, paSh]; omega)
  intro h56; refine gg [1,0,9,7,2003,2001,54,4,3,2,1,8,5,1,0,9,6,2003,2001,4,3,2,1,33] ?_; refine ⟨.inl rfl, _, rfl, .ofB ?_, trivial⟩; first | (simp_all [okPa, paSh]; done) | (simp_all [okPa, paSh]; omega)

end Go.Proofs.YtlagglkpbnbmeaaGreatDoor
