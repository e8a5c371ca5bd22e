/- A row of one's own, looked at. -/
import Derived.Test.YtlagglkpbnbmeaaSH
namespace Go.Proofs.Ytlagglkpbnbmeaa
open Go Go.RowKit
set_option linter.unusedVariables false

section
variable {P : Program} {o : Oper} {l : List (Nat × F)} {d : Nat}
/-- a cell that a ghost owns is read: its elements stand, whoever owns the room behind them -/
theorem r_loadView {T T0 e : TypeId} {x : Operand} {y n g sz : Nat} {xs : List C} {els : List (List D)} (ho : o.op = .load T x) (hd : o.dst = some d) (hT : plainT P T = true) (hx : opd l x = some (.ptr y n)) (hy : find l y = some (.var T0 xs)) (hu : xs[n]? = some (.gh g)) (hg : find l g = some (.own e sz els)) (hmm : (Nat.blt n mapT && !Nat.beq T0 mapT) = true := by exact rfl) :
    Does P o (rdOf x ++ [y, g]) [] l [(d, .c (.sl sz els))] := by
  intro en σ a w next Q hnn hdn hσ _ hR hnext
  obtain ⟨hdf, hsz, hfr, ρ, tv, htv, hin, hvz, hrr⟩ := hR
  have hview := view_of hσ htv hrr
  have h1 : a.eval x = .pointer (some ⟨ρ y, n, none⟩) := Eq.trans (hview.fv hx (fun _ h => List.mem_append_left _ h) (by intro T xs e; cases e)) (ptrV_ptr (and_mapT hmm).1)
  obtain ⟨vs, h2, h3⟩ := hview.vr y _ _ hy (List.mem_append_right _ (by simp))
  rw [objV_row _ (and_mapT hmm).2] at h2
  obtain ⟨v, h4, h5⟩ := h3.get n _ hu
  have hv : v = tv g := h5.1.1
  have hσg : σ g = some (.own e sz els) := by rw [hσ g (List.mem_append_right _ (by simp))]; exact hg
  have hrun : (execOp a.eval o).run P w = .ok (.value (tv g)) w := by
    simp only [execOp, ho, h1, Sem.run_bind, run_load_plain hT ((row_cell h2 n).trans h4)]
    rw [hv]; rfl
  unfold wq
  rw [hrun, uq_value, hd]
  refine hnext _ _ (R.put hdf hsz hfr htv hin hvz hrr (hdn d hd) hnn (f := .c (.sl sz els)) trivial ?_)
  show DIn _ _ _ _
  obtain ⟨us, hown, hr, hl⟩ := hrr.rel g _ hσg
  rcases hown.2 with ⟨q1, q2⟩ | ⟨b, cap, cur, q1, _, q3, q4, _⟩
  · rw [q1]
    have : els = [] := List.eq_nil_of_length_eq_zero q2
    rw [this]
    exact DIn.nil _ _
  · have hcells := hown.cells (g := b) (by rw [q1]; rfl)
    have hb := hrr.exb g _ b hσg (by show (tv g).ownBlock = _; rw [q1]; rfl)
    have hlen := hl.len
    rw [flatten_len els sz hr] at hlen
    rw [q1]
    refine DIn.rows q4 hr hl (fun j u hj => ?_)
    have hc := hcells j u hj
    have hjl : j < us.length := (List.getElem?_eq_some_iff.1 hj).1
    refine ⟨⟨?_, ?_, ?_⟩, hc⟩
    · rw [block_of_add]; exact hb.1
    · exact hb.2 _ (by rw [block_of_add])
    · rintro ⟨k', f', z1, z2, z3⟩
      rw [block_of_add] at z2
      have hkk := hrr.dist _ _ _ _ _ z1 hσg z2 (by show (tv g).ownBlock = _; rw [q1]; rfl)
      subst hkk
      rw [hσg] at z1
      cases z1
      have : els.length * sz ≤ j := by
        have z4 : els.length * sz ≤ (Addr.add ⟨b, 0, none⟩ j).off := z3
        have z5 : (Addr.add ⟨b, 0, none⟩ j).off = j := by
          simp only [Addr.add]
          split <;> simp_all
        omega
      omega
end

end Go.Proofs.Ytlagglkpbnbmeaa
