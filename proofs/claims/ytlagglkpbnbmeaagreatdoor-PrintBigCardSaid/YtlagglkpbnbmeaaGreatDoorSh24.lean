/- A row of one's own, looked at under another name. -/
import Derived.Test.YtlagglkpbnbmeaaGreatDoorSh22
namespace Go.Proofs.YtlagglkpbnbmeaaGreatDoor
open Go Go.RowKit
set_option linter.unusedVariables false

section
variable {P : Program} {o : Oper} {l : List (Nat × F)} {d : Nat}
end

section
variable {P : Program}
theorem con_nil1 {f : FuncId} {T : TypeId} {sz : Nat} {a : F} {fs : List F} {vs vs' : List (Nat × F)} {r : F} (h : Con P f (a :: .own T sz [] :: fs) vs r vs') : Con P f (a :: .c (.lit (.slice none 0 0)) :: fs) vs r vs' := by
  intro V ρ tv w args B hsz htv hrr htt hBv hBw
  have hv : tv 1 = .slice none 0 0 := lit_val (ρ := ρ) (hrr.rel 1 _ rfl)
  have hs : setv tv 1 (tv 1) = tv := by funext k; unfold setv; by_cases h : k = 1 <;> simp [h]
  obtain ⟨h1, _⟩ := hrr.own (t := 1) (d := 1) (w' := w) (T := T) (sz := sz) (els := []) (v := tv 1) (us := []) (.inl (by omega)) (fun _ => False) (fun p h => h.elim) (Nat.le_refl _) (fun _ _ _ => rfl) (fun _ _ _ => rfl) (by rw [hv]; exact World.ownsRow_nil _ _ _ _) (fun _ h => by simp at h) trivial (fun p hp => by rw [hv] at hp; simp [Value.ownBlock] at hp) (fun b hp => by rw [hv] at hp; simp [Value.ownBlock] at hp)
  have hst : upd (find (ini (a :: .c (.lit (.slice none 0 0)) :: fs) vs)) [(1, .own T sz []), (1, .non)] = find (ini (a :: .own T sz [] :: fs) vs) := by
    funext k
    unfold upd ini
    simp only [nums, List.cons_append, find_cons]
    by_cases h0 : 0 = k
    · subst h0; simp [find]
    by_cases hk : 1 = k
    · subst hk; simp
    · simp [h0, hk, find]
  rw [hs, hst] at h1
  have hvol : ∀ p, vol (find (ini (a :: .own T sz [] :: fs) vs)) ρ tv p → vol (find (ini (a :: .c (.lit (.slice none 0 0)) :: fs) vs)) ρ tv p := by
    rintro p ⟨k, f', q1, q2, q3⟩
    unfold ini at q1
    simp only [nums, List.cons_append, find_cons] at q1
    by_cases hk : 1 = k
    · subst hk
      simp at q1
      cases q1
      simp only [ex, hv, Value.ownBlock] at q2
      cases q2
    · refine ⟨k, f', ?_, q2, q3⟩
      unfold ini
      simp only [nums, List.cons_append, find_cons]
      by_cases h0 : 0 = k
      · rw [if_pos h0] at q1 ⊢; exact q1
      · rw [if_neg h0, if_neg hk] at q1 ⊢; exact q1
  refine (h V ρ tv w args B (by simpa using hsz) htv h1 htt (fun p hp => hBv p (hvol p hp)) hBw).mono ?_
  rintro e w' ⟨v, tv', e1, e2, e3, e4, e5⟩
  exact ⟨v, tv', e1, e2, ⟨e3.os, e3.tape, e3.output, e3.size, fun p hp hn => e3.cell p hp (fun q => hn (hvol p q)), fun k hk hn => e3.block k hk (fun p hp q => hn p hp (hvol p q))⟩, e4, fun p hp => (e5 p hp).imp_left (hvol p)⟩
end

end Go.Proofs.YtlagglkpbnbmeaaGreatDoor
