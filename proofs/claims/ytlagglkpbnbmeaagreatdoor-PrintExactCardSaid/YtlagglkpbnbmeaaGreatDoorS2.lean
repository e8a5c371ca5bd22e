/- Bundle of Sh20 Sh21 Sh22 Sh24 Sh25. -/
import Derived.Test.YtlagglkpbnbmeaaGreatDoorShZ
import Derived.Test.YtlagglkpbnbmeaaGreatDoorSh18

/- row[i:], row[:i] of numbers. -/
namespace Go.Proofs.YtlagglkpbnbmeaaGreatDoor
open Go Go.RowKit
set_option linter.unusedVariables false

section
variable {P : Program} {o : Oper} {l : List (Nat × F)} {d : Nat}
end

end Go.Proofs.YtlagglkpbnbmeaaGreatDoor

/- Shadows: an operation that runs as another one does; a call of a function that came in as a value. -/
namespace Go.Proofs.YtlagglkpbnbmeaaGreatDoor
open Go Go.RowKit
set_option linter.unusedVariables false

section
variable {P : Program} {o o' : Oper} {l : List (Nat × F)}
end

end Go.Proofs.YtlagglkpbnbmeaaGreatDoor

/- A cut between two parts of the code; maps: asked with ok, a key's value changed. -/
namespace Go.Proofs.YtlagglkpbnbmeaaGreatDoor
open Go Go.RowKit
set_option linter.unusedVariables false

section
variable {P : Program} {n : Nat} {ins : List Nat} {l : List (Nat × F)} {K : Cont}
theorem J_mono {K' : Cont} {c : Code} (h : ∀ x l', K x l' → K' x l') (hJ : J P n ins l c K) : J P n ins l c K' :=
  fun ro e Q h1 h2 hK a w hR => hJ ro e Q h1 h2 (fun x l' a w hx => hK x l' a w (h x l' hx)) a w hR
def cutK {α : Type} (I : α → List (Nat × F)) (K : Cont) : Cont
  | .normal, l => ∃ p, sub (I p) l
  | x, l => K x l
theorem cut_in {α : Type} {I : α → List (Nat × F)} {K : Cont} {l : List (Nat × F)} (p : α) (h : sub (I p) l) : cutK I K .normal l := ⟨p, h⟩
theorem J_cutF {α : Type} (I : α → List (Nat × F)) (fix : List (Nat × F)) {x y : Code} (h0 : sub fix l) (hx : J P n ins l x (cutK (fun p => I p ++ fix) K)) (hy : ∀ p, J P n ins (I p ++ fix) y K) : J P n ins l (.seq x y) K :=
  J_seq (J_mono (fun z l' hz => by
    cases z with
    | normal => obtain ⟨p, hp⟩ := hz; exact J_weak _ hp (hy p)
    | exit i => exact hz
    | goto i => exact hz
    | ret => exact hz
    | panic i => exact hz
    | outgrown => exact hz) hx)
end

section
variable {P : Program} {o : Oper} {l : List (Nat × F)} {d : Nat}
end

end Go.Proofs.YtlagglkpbnbmeaaGreatDoor

/- A row of one's own, looked at under another name. -/
namespace Go.Proofs.YtlagglkpbnbmeaaGreatDoor
open Go Go.RowKit
set_option linter.unusedVariables false

section
variable {P : Program} {o : Oper} {l : List (Nat × F)} {d : Nat}
end

section
variable {P : Program}
theorem con_nil1 {f : FuncId} {T : TypeId} {sz : Nat} {a : F} {fs : List F} {vs vs' : List (Nat × F)} {r : F} (h : Con P f (a :: .own T sz [] :: fs) vs r vs') : Con P f (a :: .c (.lit (.slice none 0 0)) :: fs) vs r vs' := by
  intro V ρ tv w args B hsz htv hrr htt hBv hBw
  have hv : tv 1 = .slice none 0 0 := lit_val (ρ := ρ) (hrr.rel 1 _ rfl)
  have hs : setv tv 1 (tv 1) = tv := by funext k; unfold setv; by_cases h : k = 1 <;> simp [h]
  obtain ⟨h1, _⟩ := hrr.own (t := 1) (d := 1) (w' := w) (T := T) (sz := sz) (els := []) (v := tv 1) (us := []) (.inl (by omega)) (fun _ => False) (fun p h => h.elim) (Nat.le_refl _) (fun _ _ _ => rfl) (fun _ _ _ => rfl) (by rw [hv]; exact World.ownsRow_nil _ _ _ _) (fun _ h => by simp at h) trivial (fun p hp => by rw [hv] at hp; simp [Value.ownBlock] at hp) (fun b hp => by rw [hv] at hp; simp [Value.ownBlock] at hp)
  have hst : upd (find (ini (a :: .c (.lit (.slice none 0 0)) :: fs) vs)) [(1, .own T sz []), (1, .non)] = find (ini (a :: .own T sz [] :: fs) vs) := by
    funext k
    unfold upd ini
    simp only [nums, List.cons_append, find_cons]
    by_cases h0 : 0 = k
    · subst h0; simp [find]
    by_cases hk : 1 = k
    · subst hk; simp
    · simp [h0, hk, find]
  rw [hs, hst] at h1
  have hvol : ∀ p, vol (find (ini (a :: .own T sz [] :: fs) vs)) ρ tv p → vol (find (ini (a :: .c (.lit (.slice none 0 0)) :: fs) vs)) ρ tv p := by
    rintro p ⟨k, f', q1, q2, q3⟩
    unfold ini at q1
    simp only [nums, List.cons_append, find_cons] at q1
    by_cases hk : 1 = k
    · subst hk
      simp at q1
      cases q1
      simp only [ex, hv, Value.ownBlock] at q2
      cases q2
    · refine ⟨k, f', ?_, q2, q3⟩
      unfold ini
      simp only [nums, List.cons_append, find_cons]
      by_cases h0 : 0 = k
      · rw [if_pos h0] at q1 ⊢; exact q1
      · rw [if_neg h0, if_neg hk] at q1 ⊢; exact q1
  refine (h V ρ tv w args B (by simpa using hsz) htv h1 htt (fun p hp => hBv p (hvol p hp)) hBw).mono ?_
  rintro e w' ⟨v, tv', e1, e2, e3, e4, e5⟩
  exact ⟨v, tv', e1, e2, ⟨e3.os, e3.tape, e3.output, e3.size, fun p hp hn => e3.cell p hp (fun q => hn (hvol p q)), fun k hk hn => e3.block k hk (fun p hp q => hn p hp (hvol p q))⟩, e4, fun p hp => (e5 p hp).imp_left (hvol p)⟩
end

end Go.Proofs.YtlagglkpbnbmeaaGreatDoor

/- Arrays: built, an element's place. -/
namespace Go.Proofs.YtlagglkpbnbmeaaGreatDoor
open Go Go.RowKit
set_option linter.unusedVariables false

def arrOf? (P : Program) (T : TypeId) : Option (Nat × Nat) :=
  match P.underlying T with
  | some (.array len e) => (sizeT P e).map fun n => (len, n)
  | _ => none
theorem arrOf?_some {P : Program} {T : TypeId} {len n : Nat} (h : arrOf? P T = some (len, n)) : ∃ e, P.underlying T = some (.array len e) ∧ sizeT P e = some n := by
  unfold arrOf? at h
  cases hu : P.underlying T with
  | none => simp [hu] at h
  | some dd =>
    rw [hu] at h
    cases dd with
    | array len' e' =>
      simp only [Option.map_eq_some_iff] at h
      obtain ⟨m, hm, h⟩ := h
      cases h
      exact ⟨_, rfl, hm⟩
    | _ => simp at h
section
variable {P : Program} {o : Oper} {l : List (Nat × F)} {d : Nat}
theorem r_indexArr {T : TypeId} {x i : Operand} {y n sz len : Nat} {k : IntKind} {j : Int} (m : Nat) (ho : o.op = .indexAddr T x i) (hd : o.dst = some d) (hT : arrOf? P T = some (len, sz)) (hx : opd l x = some (.ptr y n))
    (hi : opd l i = some (.c (.lit (.int k j)))) (hj : j = (m : Int)) (hm : m < len) (hmm : (Nat.blt n mapT && Nat.blt (n + m * sz) mapT) = true) : Does P o (rdOf x ++ rdOf i) [] l [(d, .ptr y (n + m * sz))] :=
  Does.val hd trivial fun S ρ tv a w hv => by
    rw [Bool.and_eq_true] at hmm
    have h1 : a.eval x = .pointer (some ⟨ρ y, n, none⟩) := Eq.trans (hv.fv hx (fun _ h => List.mem_append_left _ h) (by intro T xs e; cases e)) (ptrV_ptr hmm.1)
    have h3 := lit_val (hv.fv hi (fun _ h => List.mem_append_right _ h) (by intro T xs e; cases e))
    obtain ⟨e, hu, hs⟩ := arrOf?_some hT
    subst hj
    have hlt' : (0 : Int) ≤ (m : Int) ∧ (m : Int) < (len : Int) := by omega
    refine ⟨_, ?_, (ptrV_ptr hmm.2).symm⟩
    simp only [execOp, ho, h1, h3, Instr.indexAt, Instr.sureAddr, asIntOf, Sem.run_bind, Sem.run_pure, Result.andThen_ok, run_underlying hu w, if_pos hlt', run_sizeOf' hs w, addr_add, Int.toNat_natCast]
theorem r_buildArr {T : TypeId} {parts : Array (Nat × Operand)} {zs : List Value} {len sz : Nat} {ps : List (Nat × List D)} {out : List D} (ds : List D) (ho : o.op = .build T parts) (hd : o.dst = some d) (hz : zeroT P T = some zs) (hq : arrOf? P T = some (len, sz))
    (hw : WkDs (zs.map .lit) ds) (hp : partsD l parts.toList = some ps) (hf : fillD (fun i => some (i * sz, sz)) ds ps = some out) : Does P o (rdsOf parts.toList) [] l [(d, .agg out)] :=
  Does.val hd trivial fun S ρ tv a w hv => by
    obtain ⟨z, h1, h2, h3⟩ := zeroT_some hz
    obtain ⟨outv, h4, h5⟩ := fill_ok (l := l) (S := S) (w := w) (ρ := ρ) (a := a) (place := fun i => some (i * sz, sz)) parts.toList ps _ zs out (fun x hx f h1 h2 => hv.fv h1 (fun k hk => by
      unfold rdsOf
      exact List.mem_flatMap.2 ⟨x, hx, hk⟩) h2) hp (hw.ok (LIn.lits h3)) hf
    refine ⟨.agg outv.toArray, ?_, outv, rfl, h5⟩
    obtain ⟨e, hu, hs⟩ := arrOf?_some hq
    have h6 : Instr.fill (fun i => some (i * sz, sz)) z.cells (parts.map fun (i, x) => (i, a.eval x)).toList = some outv.toArray := by
      rw [h2, Array.toList_map]
      exact h4
    simp only [execOp, ho, Instr.build, Sem.run_bind, h1 w, Result.andThen_ok, run_underlying hu w, run_sizeOf' hs w, h6, Sem.run_pure]
end
end Go.Proofs.YtlagglkpbnbmeaaGreatDoor

