/- Bundle of Sh20 Sh21 Sh22 Sh24. -/
import Derived.Test.YtlagglkpbnbmeaaGreatDoorShZ
import Derived.Test.YtlagglkpbnbmeaaGreatDoorSh18

/- row[i:], row[:i] of numbers. -/
namespace Go.Proofs.YtlagglkpbnbmeaaGreatDoor
open Go Go.RowKit
set_option linter.unusedVariables false

section
variable {P : Program} {o : Oper} {l : List (Nat × F)} {d : Nat}
end

end Go.Proofs.YtlagglkpbnbmeaaGreatDoor

/- Shadows: an operation that runs as another one does; a call of a function that came in as a value. -/
namespace Go.Proofs.YtlagglkpbnbmeaaGreatDoor
open Go Go.RowKit
set_option linter.unusedVariables false

section
variable {P : Program} {o o' : Oper} {l : List (Nat × F)}
theorem Does.like {rd rdx : List Nat} {fr : List (Nat × List Nat)} {post : List (Nat × F)} (h : Does P o' rd fr l post) (hd : o.dst = o'.dst)
    (hrun : ∀ S ρ tv a w, View l rdx S ρ tv a w → (execOp a.eval o).run P w = (execOp a.eval o').run P w) : Does P o (rd ++ rdx) fr l post := by
  intro e σ a w next Q hn hdn hσ hf hR hnext
  have hv : ∃ S ρ tv, View l rdx S ρ tv a w := by
    obtain ⟨hdf, hsz, hfr, ρ, tv, htv, hin, hvz, hrr⟩ := hR
    exact ⟨_, ρ, tv, view_of (fun k hk => hσ k (List.mem_append_right _ hk)) htv hrr⟩
  obtain ⟨S, ρ, tv, hv⟩ := hv
  have h1 := h e σ a w next Q hn (fun d hd' => hdn d (hd.trans hd')) (fun k hk => hσ k (List.mem_append_left _ hk)) hf hR hnext
  have hr := hrun S ρ tv a w hv
  unfold wq at h1 ⊢
  rw [hr]
  unfold uq at h1 ⊢
  rw [hd]
  exact h1
abbrev fnV (f : FuncId) : Value := .func (.func f) #[] #[]
theorem r_callv {t d : Nat} {f : FuncId} {args : Array Operand} {ts : Array TypeId} {fs : List F} {vs vs' : List (Nat × F)} {r : F} (hC : Con P f fs vs r vs') (ho : o.op = .call { callee := .value (.tmp t), args := args, argTypes := ts }) (hd : o.dst = some d)
    (ht : opd l (.tmp t) = some (.c (.lit (fnV f)))) (ha : argsF l args.toList = some fs) (hvs : sub vs l) (hcf : callOK P f = true) (hck : (keysOK vs vs' r && oneOwn fs && ghostsOK vs' && Nat.ble fs.length 1000) = true) :
    Does P o ((args.toList.flatMap rdOf ++ vs.map (·.1)) ++ [t]) (frCall vs vs') l (postCall l d r args.toList vs vs') :=
  (r_call (o := { o with op := .call { callee := .value (.func f), args := args, argTypes := ts } }) hC rfl hd ha hvs (by rw [hcf, Bool.true_and]; exact hck)).like rfl fun S ρ tv a w hv => by
    have e1 : a.eval (.tmp t) = fnV f := lit_val (hv.fv ht (fun _ h => by simpa [rdOf] using h) (by intro T xs e; cases e))
    have e2 : a.eval (.func f) = fnV f := rfl
    simp only [execOp, ho, resolve, e1, e2]
def fnArg : Operand → Operand
  | .func f => .const (fnV f)
  | x => x
theorem fnArg_eval (a : Act) (x : Operand) : a.eval (fnArg x) = a.eval x := by cases x <;> rfl
theorem r_callF {d : Nat} {f : FuncId} {args : Array Operand} {ts : Array TypeId} {fs : List F} {vs vs' : List (Nat × F)} {r : F} (hC : Con P f fs vs r vs') (ho : o.op = .call { callee := .value (.func f), args := args, argTypes := ts }) (hd : o.dst = some d)
    (ha : argsF l (args.toList.map fnArg) = some fs) (hvs : sub vs l) (hck : (callOK P f && keysOK vs vs' r && oneOwn fs && ghostsOK vs' && Nat.ble fs.length 1000) = true) :
    Does P o (((args.toList.map fnArg).flatMap rdOf ++ vs.map (·.1)) ++ []) (frCall vs vs') l (postCall l d r (args.toList.map fnArg) vs vs') :=
  (r_call (o := { o with op := .call { callee := .value (.func f), args := (args.toList.map fnArg).toArray, argTypes := ts } }) hC rfl hd ha hvs hck).like rfl fun S ρ tv a w hv => by
    have e1 : ((args.toList.map fnArg).toArray).map a.eval = args.map a.eval := by
      cases args with
      | mk xs =>
        simp only [List.map_toArray, List.map_map]
        congr 1
        apply List.map_congr_left
        intro x _
        exact fnArg_eval a x
    have hc : callOK P f = true := by
      simp only [Bool.and_eq_true] at hck
      exact hck.1.1.1.1
    rw [run_call ho hc a w, run_call (o := { o with op := .call { callee := .value (.func f), args := (args.toList.map fnArg).toArray, argTypes := ts } }) rfl hc a w, e1]
end

end Go.Proofs.YtlagglkpbnbmeaaGreatDoor

/- A cut between two parts of the code; maps: asked with ok, a key's value changed. -/
namespace Go.Proofs.YtlagglkpbnbmeaaGreatDoor
open Go Go.RowKit
set_option linter.unusedVariables false

section
variable {P : Program} {n : Nat} {ins : List Nat} {l : List (Nat × F)} {K : Cont}
theorem J_mono {K' : Cont} {c : Code} (h : ∀ x l', K x l' → K' x l') (hJ : J P n ins l c K) : J P n ins l c K' :=
  fun ro e Q h1 h2 hK a w hR => hJ ro e Q h1 h2 (fun x l' a w hx => hK x l' a w (h x l' hx)) a w hR
def cutK {α : Type} (I : α → List (Nat × F)) (K : Cont) : Cont
  | .normal, l => ∃ p, sub (I p) l
  | x, l => K x l
theorem cut_in {α : Type} {I : α → List (Nat × F)} {K : Cont} {l : List (Nat × F)} (p : α) (h : sub (I p) l) : cutK I K .normal l := ⟨p, h⟩
theorem J_cutF {α : Type} (I : α → List (Nat × F)) (fix : List (Nat × F)) {x y : Code} (h0 : sub fix l) (hx : J P n ins l x (cutK (fun p => I p ++ fix) K)) (hy : ∀ p, J P n ins (I p ++ fix) y K) : J P n ins l (.seq x y) K :=
  J_seq (J_mono (fun z l' hz => by
    cases z with
    | normal => obtain ⟨p, hp⟩ := hz; exact J_weak _ hp (hy p)
    | exit i => exact hz
    | goto i => exact hz
    | ret => exact hz
    | panic i => exact hz
    | outgrown => exact hz) hx)
end

section
variable {P : Program} {o : Oper} {l : List (Nat × F)} {d : Nat}
end

end Go.Proofs.YtlagglkpbnbmeaaGreatDoor

/- A row of one's own, looked at under another name. -/
namespace Go.Proofs.YtlagglkpbnbmeaaGreatDoor
open Go Go.RowKit
set_option linter.unusedVariables false

section
variable {P : Program} {o : Oper} {l : List (Nat × F)} {d : Nat}
end

section
variable {P : Program}
end

end Go.Proofs.YtlagglkpbnbmeaaGreatDoor

