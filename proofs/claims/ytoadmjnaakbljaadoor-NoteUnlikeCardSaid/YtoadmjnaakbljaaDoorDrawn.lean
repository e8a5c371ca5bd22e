/- A region that draws its order, walked once: what yields the same in every later world is taken first; a call that stands alone is met by its contract, and what it leaves is the new world to speak of. -/
import Derived.Test.YtoadmjnaakbljaaDoorBase
import Derived.Deep.RegionHeld3
namespace Go.Proofs.YtoadmjnaakbljaaDoor
open Go Go.RowKit

/-- w is W with more: what there was reads as it did -/
def Later (W w : World) : Prop := W.heap.size ≤ w.heap.size ∧ ∀ p : Addr, p.block < W.heap.size → w.cell? p = W.cell? p
theorem Later.refl (W : World) : Later W W := ⟨Nat.le_refl _, fun _ _ => rfl⟩
theorem Later.trans {W w w2 : World} (h : Later W w) (h2 : Later w w2) : Later W w2 := ⟨Nat.le_trans h.1 h2.1, fun p hp => (h2.2 p (Nat.lt_of_lt_of_le hp h.1)).trans (h.2 p hp)⟩
theorem later_of {W w : World} (h : Below W.heap.size W w) : Later W w := ⟨h.size, fun _ hp => h.cell hp⟩

theorem Later.drew {W w : World} (h : Later W w) : Later W.drew w := h

section
variable {P : Program} {ops : Array Oper} {Q : Exit → Act → World → Prop} {md : Region.Mode}
theorem held_stronger {S S' : World → Prop} (hs : ∀ w, S' w → S w) : ∀ (fuel : Nat) (listed : Array Bool) (a : Act) (w : World), wpAnyH P md ops Q S' fuel listed a w → wpAnyH P md ops Q S fuel listed a w
  | 0, _, _, _, h => h
  | fuel + 1, _, _, _, h => ⟨h.1, fun i hi => wpOp_mono (fun a' w' h' => ⟨hs w' h'.1, held_stronger hs fuel _ a' w' h'.2⟩) (h.2 i hi)⟩
theorem drawn_start {id : Nat} {a : Act} {w : World} (hm : P.follows .mixedOrders = true)
    (h : wpAnyH P .any ops (NoPanic Q) (Later w.drew) ops.size (Array.replicate ops.size false) a w.drew) : (Code.region id ops true).wp P Q a w :=
  wp_region_noPanic (wp_region_held_drew (S := Later w.drew) hm (Later.refl _) fun _ => h)
theorem take_at {W : World} {a : Act} {fuel : Nat} {listed : Array Bool} {oi : Oper} {v : Value} (i : Nat) (hi : ops.toList[i]? = some oi) (hs : Region.noSelect ops = true) (hf : Region.free md ops listed i = true)
    (hr : (Region.ready md ops listed).contains i = true) (hw : Region.wanted oi (yielded ops a.tmps) = true) (hy : ∀ w, Later W w → (execOp a.eval oi).run P w = .ok (.value v) w)
    (h : wpAnyH P md ops (NoPanic Q) (Later W) fuel (listed.setIfInBounds i true) (a.put oi.dst v) W) : wpAnyH P md ops (NoPanic Q) (Later W) (fuel + 1) listed a W :=
  wpAnyH_take ((Array.getElem?_toList).symm.trans hi) hs hf hr (fun _ _ _ h => h) (.inl ⟨hw, hy⟩) (Later.refl W) h
theorem skip_at {W : World} {a : Act} {fuel : Nat} {listed : Array Bool} {oi : Oper} (i : Nat) (hi : ops.toList[i]? = some oi) (hs : Region.noSelect ops = true) (hf : Region.free md ops listed i = true)
    (hr : (Region.ready md ops listed).contains i = true) (hw : Region.wanted oi (yielded ops a.tmps) = false)
    (h : wpAnyH P md ops (NoPanic Q) (Later W) fuel (listed.setIfInBounds i true) (a.put oi.dst undef) W) : wpAnyH P md ops (NoPanic Q) (Later W) (fuel + 1) listed a W :=
  wpAnyH_take ((Array.getElem?_toList).symm.trans hi) hs hf hr (fun _ _ _ h => h) (.inr ⟨hw, rfl⟩) (Later.refl W) h
/-- the one that comes up alone -/
theorem sole_at {W : World} {a : Act} {fuel : Nat} {listed : Array Bool} {o : Oper} (i : Nat) (hr : Region.ready md ops listed = [i]) (ho : ops.toList[i]? = some o)
    (hw : Region.wanted o (yielded ops a.tmps) = true)
    (h : ∀ K : Act → World → Prop, Shut (∀ a w1, Later W w1 → wpAnyH P md ops (NoPanic Q) (Later w1) fuel (listed.setIfInBounds i true) a w1 → K a w1) → Oper.wp P o a W K (NoPanic Q)) :
    wpAnyH P md ops (NoPanic Q) (Later W) (fuel + 1) listed a W := by
  refine wpAnyH_ready (rs := [i]) hr (by simp) (AllReadyH.cons ((Array.getElem?_toList).symm.trans ho) (fun K hK => ?_) AllReadyH.nil)
  rw [if_pos hw]
  refine h K fun a w1 hl hn => hK.out a w1 hl fun _ => held_stronger (fun w h => hl.trans h) _ _ _ _ hn
theorem drawn_done {W : World} {a : Act} {fuel : Nat} {listed : Array Bool} (hr : Region.ready md ops listed = []) (h : Q .normal a W) : wpAnyH P md ops (NoPanic Q) (Later W) fuel listed a W :=
  wpAnyH_done hr (NoPanic.normal h) fuel
end

/-- the same, but for the cells of one block -/
def LaterX (x : Option Nat) (W w : World) : Prop := W.heap.size ≤ w.heap.size ∧ ∀ p : Addr, p.block < W.heap.size → some p.block ≠ x → w.cell? p = W.cell? p
theorem LaterX.refl (x : Option Nat) (W : World) : LaterX x W W := ⟨Nat.le_refl _, fun _ _ _ => rfl⟩
theorem LaterX.trans {x : Option Nat} {W w w2 : World} (h : LaterX x W w) (h2 : LaterX x w w2) : LaterX x W w2 := ⟨Nat.le_trans h.1 h2.1, fun p hp hx => (h2.2 p (Nat.lt_of_lt_of_le hp h.1) hx).trans (h.2 p hp hx)⟩
theorem Later.but {W w : World} (h : Later W w) (x : Option Nat) : LaterX x W w := ⟨h.1, fun p hp _ => h.2 p hp⟩
theorem laterX_grown {x : Option Nat} {W w : World} (h : W.grownBy w x) : LaterX x W w := ⟨h.size, fun p hp hx => World.cell?_of_block (h.block p.block hp hx)⟩

section
variable {P : Program} {ops : Array Oper} {Q : Exit → Act → World → Prop} {md : Region.Mode} {x : Option Nat}
theorem drawn_startX (x : Option Nat) {id : Nat} {a : Act} {w : World} (hm : P.follows .mixedOrders = true)
    (h : wpAnyH P .any ops (NoPanic Q) (LaterX x w.drew) ops.size (Array.replicate ops.size false) a w.drew) : (Code.region id ops true).wp P Q a w :=
  wp_region_noPanic (wp_region_held_drew (S := LaterX x w.drew) hm (LaterX.refl _ _) fun _ => h)
theorem take_atX {W : World} {a : Act} {fuel : Nat} {listed : Array Bool} {oi : Oper} {v : Value} (i : Nat) (hi : ops.toList[i]? = some oi) (hs : Region.noSelect ops = true) (hf : Region.free md ops listed i = true)
    (hr : (Region.ready md ops listed).contains i = true) (hw : Region.wanted oi (yielded ops a.tmps) = true) (hy : ∀ w, LaterX x W w → (execOp a.eval oi).run P w = .ok (.value v) w)
    (h : wpAnyH P md ops (NoPanic Q) (LaterX x W) fuel (listed.setIfInBounds i true) (a.put oi.dst v) W) : wpAnyH P md ops (NoPanic Q) (LaterX x W) (fuel + 1) listed a W :=
  wpAnyH_take ((Array.getElem?_toList).symm.trans hi) hs hf hr (fun _ _ _ h => h) (.inl ⟨hw, hy⟩) (LaterX.refl x W) h
theorem skip_atX {W : World} {a : Act} {fuel : Nat} {listed : Array Bool} {oi : Oper} (i : Nat) (hi : ops.toList[i]? = some oi) (hs : Region.noSelect ops = true) (hf : Region.free md ops listed i = true)
    (hr : (Region.ready md ops listed).contains i = true) (hw : Region.wanted oi (yielded ops a.tmps) = false)
    (h : wpAnyH P md ops (NoPanic Q) (LaterX x W) fuel (listed.setIfInBounds i true) (a.put oi.dst undef) W) : wpAnyH P md ops (NoPanic Q) (LaterX x W) (fuel + 1) listed a W :=
  wpAnyH_take ((Array.getElem?_toList).symm.trans hi) hs hf hr (fun _ _ _ h => h) (.inr ⟨hw, rfl⟩) (LaterX.refl x W) h
theorem sole_atX {W : World} {a : Act} {fuel : Nat} {listed : Array Bool} {o : Oper} (i : Nat) (hr : Region.ready md ops listed = [i]) (ho : ops.toList[i]? = some o)
    (hw : Region.wanted o (yielded ops a.tmps) = true)
    (h : ∀ K : Act → World → Prop, Shut (∀ a w1, LaterX x W w1 → wpAnyH P md ops (NoPanic Q) (LaterX x w1) fuel (listed.setIfInBounds i true) a w1 → K a w1) → Oper.wp P o a W K (NoPanic Q)) :
    wpAnyH P md ops (NoPanic Q) (LaterX x W) (fuel + 1) listed a W := by
  refine wpAnyH_ready (rs := [i]) hr (by simp) (AllReadyH.cons ((Array.getElem?_toList).symm.trans ho) (fun K hK => ?_) AllReadyH.nil)
  rw [if_pos hw]
  refine h K fun a w1 hl hn => hK.out a w1 hl fun _ => held_stronger (fun w h => hl.trans h) _ _ _ _ hn
theorem drawn_doneX {W : World} {a : Act} {fuel : Nat} {listed : Array Bool} (hr : Region.ready md ops listed = []) (h : Q .normal a W) : wpAnyH P md ops (NoPanic Q) (LaterX x W) fuel listed a W :=
  wpAnyH_done hr (NoPanic.normal h) fuel
end

end Go.Proofs.YtoadmjnaakbljaaDoor
