/- The program's tree: is an expression right? -/
import Derived.Test.YtlagglkpbnbmeaaGreatDoorShC
import Derived.Test.YtlagglkpbnbmeaaGreatDoorShZ
import Derived.Test.YtlagglkpbnbmeaaGreatDoorRi5
namespace Go.Proofs.YtlagglkpbnbmeaaGreatDoor
open Go Go.RowKit
set_option maxRecDepth 100000
set_option maxHeartbeats 4000000
set_option linter.unusedVariables false
set_option linter.unusedSimpArgs false

def contE (_ : Unit) (y : Ex) : Bool := oneE y
def stepE (_ : Unit) (_ : Ex) : Unit := ()
theorem runE_all : ∀ (l : List Ex) (s : Unit), (runL contE stepE s l).1 = l.all oneE
  | [], _ => rfl
  | y :: r, s => by
    rw [runL, List.all_cons]
    show (match oneE y with | true => runL contE stepE (stepE s y) r | false => (false, stepE s y)).1 = _
    cases oneE y with
    | true => exact (runE_all r _).trans (by rw [Bool.true_and])
    | false => rfl
def stE (b : Bool) (_ : Unit) : List (Nat × F) := [(3001, erF b)]
def lbE (_ : Unit) (y : Ex) : List (Nat × F) := (3, .ptr 2003 0) :: (2003, .var 30 ((exX y).map .d)) :: ([(2, .ptr 3001 0)] ++ stE true ())
theorem tCheck {n : Nat} (hn : n ≤ 1000000000) {p : Ex} (hp : ExK n p) : Con Tryz.prog 26 [.agg (exX p)] [] (.c (.lit (.int .i64 (if mCheck p then 0 else 1)))) [] := by
  have hone : ∀ {y : Ex}, ExK n y → Con Tryz.prog 55 [.agg (exX y)] [] (.c (.lit (.bool (oneE y)))) [] := fun hy => tOne hn hy
  refine con_range rfl rfl (by kernel_rfl) rfl ⟨_, _, rfl⟩ (fun e a w Q hen hi hds hR hQ => ?_); refine RE_seq (l1 := [(1, .ptr 2001 0), (2, .ptr 3001 0), (2001, .var 30 ((exX p).map .d)), (3001, erF true)]) ?_ hen hi hR (fun a1 wd1 hR1 => ?_)
  · skip
    refine gg [37,22,2001] ?_; refine u rfl rfl (r_alloc (x := 3001) (zs := [.int .i64 0]) [.lit (.int .i64 0)] rfl rfl rfl (by kernel_rfl) ⟨.refl _, trivial⟩) ?_; refine jd ?_; exact ⟨rfl, rfl, rfl, rfl, rfl, trivial⟩
  refine wpIn_seq ?_; refine RE_seq (l1 := ((5, .clo 93 (exX p)) :: ([(2, .ptr 3001 0)] ++ [(3001, erF true)]))) ?_ hen hi hR1 (fun a3 wd3 hR3 => ?_)
  · skip
    refine gg [37,20,16] ?_; refine gc (tAll p) [0] ?_; exact ⟨rfl, rfl, rfl, rfl, trivial⟩
  refine wpIn_block ?_; refine RE_range (α := Unit) (β := Ex) (n := 10) (p := 6) (Lk := 3000) (ks := [3001]) (tf := [(2, .ptr 3001 0)]) (St := stE) (enc := exX) (cont := contE) (step := stepE) (lB := lbE) (PY := fun _ y => ExK n y) (s0 := ()) (s1 := (runL contE stepE () p.list).2) (ok := (runL contE stepE () p.list).1)
    (by decide) (by decide) rfl (fun _ _ => rfl) (by decide) (by decide) (fun s y hy => ?_) (fun s y hy => ?_) (by decide) (by kernel_rfl) (fun C rec hc => cExprs hn C rec contE stepE hc hp ()) hen hds hR3 ⟨rfl, rfl, rfl, trivial⟩ rfl (fun z e2 a4 wd4 dD hz h2n h2i hR4 hB => ?_)
  · skip
    refine gg [37,23,2003,10,0] ?_; exact ⟨rfl, rfl, rfl, rfl, rfl, trivial⟩
  · skip
    refine gg [35,5,20,16] ?_; refine JR.runC rfl rfl (cl (hone hy)) rfl ?_ ?_
    · intro h8; refine gg [15,0,9,3,3001,9,2,8,34] ?_; rw [show contE s y = true from h8]; exact ⟨.inl ⟨rfl, rfl⟩, rfl, trivial⟩
    intro h8; refine gg [15,0,9,3,3001,9,2,32,5,11,0,9,2,3001,2,33] ?_; rw [show contE s y = false from h8]; exact ⟨.inr ⟨rfl, rfl⟩, rfl, trivial⟩
  have hrun := runE_all p.list ()
  rcases hz with ⟨rfl, hok⟩ | ⟨rfl, hok⟩
  · show Code.wpIn _ _ _ _ Q _ _
    rw [hok] at hR4; refine FinM.tail (rs := [.cell 2 33]) h2n h2i hR4 hB ?_ hQ; refine gg [5,11,0,9,2,3001,2,33] ?_; refine ⟨.inl rfl, ?_⟩
    show _ = some (F.c (.lit (.int .i64 (if mCheck p then 0 else 1))))
    rw [show mCheck p = true from hrun.symm.trans hok]; rfl
  refine hQ _ _ _ ⟨.inl rfl, e2, _, dD, hR4, ?_, hB⟩
  show _ = some (F.c (.lit (.int .i64 (if mCheck p then 0 else 1))))
  rw [hok, show mCheck p = false from hrun.symm.trans hok]; rfl

end Go.Proofs.YtlagglkpbnbmeaaGreatDoor
