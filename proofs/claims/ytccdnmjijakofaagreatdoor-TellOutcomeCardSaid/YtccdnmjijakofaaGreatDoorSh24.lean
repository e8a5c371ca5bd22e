/- A row of one's own, looked at under another name. -/
import Derived.Test.YtccdnmjijakofaaGreatDoorSh22
namespace Go.Proofs.YtccdnmjijakofaaGreatDoor
open Go Go.RowKit
set_option linter.unusedVariables false

section
variable {P : Program} {o : Oper} {l : List (Nat × F)} {d : Nat}
theorem Does.moveView {x : Operand} {t : Nat} {e : TypeId} {sz : Nat} {els : List (List D)} (hx : x = .tmp t) (hd : o.dst = some d) (ht : opd l x = some (.own e sz els)) (hrun : ∀ a w, (execOp (Act.eval a) o).run P w = .ok (.value (a.eval x)) w) : Does P o [t] [] l [(d, .c (.sl sz els))] := by
  intro en σ a w next Q hnn hdn hσ _ hR hnext
  obtain ⟨hdf, hsz, hfr, ρ, tv, htv, hin, hvz, hrr⟩ := hR
  subst hx
  simp only [opd] at ht
  cases hb : Nat.blt t 1000 with
  | false => rw [hb] at ht; cases ht
  | true =>
    rw [hb, cond_true] at ht
    have htl : t < 1000 := Nat.le_of_ble_eq_true hb
    have hσg : σ t = some (.own e sz els) := by rw [hσ t (by simp)]; exact ht
    have hev : a.eval (.tmp t) = tv t := (htv t htl).symm
    unfold Oper.wp
    rw [hrun, Oper.upon_value, hd, hev]
    refine hnext _ _ (R.put hdf hsz hfr htv hin hvz hrr (hdn d hd) hnn (f := .c (.sl sz els)) trivial ?_)
    show DIn _ _ _ _
    obtain ⟨us, hown, hr, hl⟩ := hrr.rel t _ hσg
    rcases hown.2 with ⟨q1, q2⟩ | ⟨b, cap, cur, q1, _, q3, q4, _⟩
    · rw [q1]
      have : els = [] := List.eq_nil_of_length_eq_zero q2
      rw [this]
      exact DIn.nil _ _
    · have hcells := hown.cells (g := b) (by rw [q1]; rfl)
      have hb := hrr.exb t _ b hσg (by show (tv t).ownBlock = _; rw [q1]; rfl)
      have hlen := hl.len
      rw [flatten_len els sz hr] at hlen
      rw [q1]
      refine DIn.rows q4 hr hl (fun j u hj => ?_)
      have hc := hcells j u hj
      have hjl : j < us.length := (List.getElem?_eq_some_iff.1 hj).1
      refine ⟨⟨?_, ?_, ?_⟩, hc⟩
      · rw [block_of_add]; exact hb.1
      · exact hb.2 _ (by rw [block_of_add])
      · rintro ⟨k', f', z1, z2, z3⟩
        rw [block_of_add] at z2
        have hkk := hrr.dist _ _ _ _ _ z1 hσg z2 (by show (tv t).ownBlock = _; rw [q1]; rfl)
        subst hkk
        rw [hσg] at z1
        cases z1
        have : els.length * sz ≤ j := by
          have z4 : els.length * sz ≤ (Addr.add ⟨b, 0, none⟩ j).off := z3
          have z5 : (Addr.add ⟨b, 0, none⟩ j).off = j := by
            simp only [Addr.add]
            split <;> simp_all
          omega
        omega
theorem r_moveView {x : Operand} {t : Nat} {e : TypeId} {sz : Nat} {els : List (List D)} (ho : o.op = .move x) (hx : x = .tmp t) (hd : o.dst = some d) (ht : opd l x = some (.own e sz els)) : Does P o [t] [] l [(d, .c (.sl sz els))] :=
  Does.moveView hx hd ht fun a w => by unfold execOp; rw [ho]; rfl
theorem r_assignView {x : Operand} {t : Nat} {e : TypeId} {sz : Nat} {els : List (List D)} (ho : o.op = .assign x) (hx : x = .tmp t) (hd : o.dst = some d) (ht : opd l x = some (.own e sz els)) : Does P o [t] [] l [(d, .c (.sl sz els))] :=
  Does.moveView hx hd ht fun a w => by unfold execOp; rw [ho]; rfl
end

section
variable {P : Program}
theorem con_nil1 {f : FuncId} {T : TypeId} {sz : Nat} {a : F} {fs : List F} {vs vs' : List (Nat × F)} {r : F} (h : Con P f (a :: .own T sz [] :: fs) vs r vs') : Con P f (a :: .c (.lit (.slice none 0 0)) :: fs) vs r vs' := by
  intro V ρ tv w args B hsz htv hrr htt hBv hBw
  have hv : tv 1 = .slice none 0 0 := lit_val (ρ := ρ) (hrr.rel 1 _ rfl)
  have hs : setv tv 1 (tv 1) = tv := by funext k; unfold setv; by_cases h : k = 1 <;> simp [h]
  obtain ⟨h1, _⟩ := hrr.own (t := 1) (d := 1) (w' := w) (T := T) (sz := sz) (els := []) (v := tv 1) (us := []) (.inl (by omega)) (fun _ => False) (fun p h => h.elim) (Nat.le_refl _) (fun _ _ _ => rfl) (fun _ _ _ => rfl) (by rw [hv]; exact World.ownsRow_nil _ _ _ _) (fun _ h => by simp at h) trivial (fun p hp => by rw [hv] at hp; simp [Value.ownBlock] at hp) (fun b hp => by rw [hv] at hp; simp [Value.ownBlock] at hp)
  have hst : upd (find (ini (a :: .c (.lit (.slice none 0 0)) :: fs) vs)) [(1, .own T sz []), (1, .non)] = find (ini (a :: .own T sz [] :: fs) vs) := by
    funext k
    unfold upd ini
    simp only [nums, List.cons_append, find_cons]
    by_cases h0 : 0 = k
    · subst h0; simp [find]
    by_cases hk : 1 = k
    · subst hk; simp
    · simp [h0, hk, find]
  rw [hs, hst] at h1
  have hvol : ∀ p, vol (find (ini (a :: .own T sz [] :: fs) vs)) ρ tv p → vol (find (ini (a :: .c (.lit (.slice none 0 0)) :: fs) vs)) ρ tv p := by
    rintro p ⟨k, f', q1, q2, q3⟩
    unfold ini at q1
    simp only [nums, List.cons_append, find_cons] at q1
    by_cases hk : 1 = k
    · subst hk
      simp at q1
      cases q1
      simp only [ex, hv, Value.ownBlock] at q2
      cases q2
    · refine ⟨k, f', ?_, q2, q3⟩
      unfold ini
      simp only [nums, List.cons_append, find_cons]
      by_cases h0 : 0 = k
      · rw [if_pos h0] at q1 ⊢; exact q1
      · rw [if_neg h0, if_neg hk] at q1 ⊢; exact q1
  refine (h V ρ tv w args B (by simpa using hsz) htv h1 htt (fun p hp => hBv p (hvol p hp)) hBw).mono ?_
  rintro e w' ⟨v, tv', e1, e2, e3, e4, e5⟩
  exact ⟨v, tv', e1, e2, ⟨e3.os, e3.tape, e3.output, e3.size, fun p hp hn => e3.cell p hp (fun q => hn (hvol p q)), fun k hk hn => e3.block k hk (fun p hp q => hn p hp (hvol p q))⟩, e4, fun p hp => (e5 p hp).imp_left (hvol p)⟩
end

end Go.Proofs.YtccdnmjijakofaaGreatDoor
