/- Shadows: what one operation does. -/
import Derived.Test.YtoadmjnaakbljaaDoorSh2
namespace Go.Proofs.YtoadmjnaakbljaaDoor
set_option linter.unusedVariables false
open Go Go.RowKit

/-- the literal a constant is -/
def cst (v : Value) : Option F :=
  match v with
  | .agg cs => bif cs.all (·.oneCell') then some (.agg (cs.toList.map .lit)) else none
  | .tuple _ => none
  | v => some (.c (.lit v))
def opd (l : List (Nat × F)) : Operand → Option F
  | .tmp t => bif Nat.blt t 1000 then find l t else none
  | .const v => cst v
  | _ => none
def rdOf : Operand → List Nat
  | .tmp t => [t]
  | _ => []
/-- does this fact speak of the variable or the ghost x -/
def refB (x : Nat) : F → Bool
  | .ptr y _ => Nat.beq x y
  | .var _ xs => xs.any fun | .gh g => Nat.beq x g | _ => false
  | _ => false
/-- what an operation may know: its operands, the variables it looks at -/
structure View (l : List (Nat × F)) (rd : List Nat) (S : Addr → Prop) (ρ : Nat → Nat) (tv : Nat → Value) (a : Act) (w : World) : Prop where
  ev : ∀ x f, opd l x = some f → (∀ k, k ∈ rdOf x → k ∈ rd) → FV S ρ w f (a.eval x) ∨ ∃ T xs, f = .var T xs
  vr : ∀ x T xs, find l x = some (.var T xs) → x ∈ rd → ∃ vs : List Value, w.heap[ρ x]? = some (.cells vs.toArray T (0, 0)) ∧ CIn S w tv xs vs
theorem View.fv {l : List (Nat × F)} {rd : List Nat} {S : Addr → Prop} {ρ : Nat → Nat} {tv : Nat → Value} {a : Act} {w : World} (h : View l rd S ρ tv a w) {x : Operand} {f : F} (hx : opd l x = some f) (hr : ∀ k, k ∈ rdOf x → k ∈ rd) (hv : ∀ T xs, f ≠ .var T xs) : FV S ρ w f (a.eval x) := by
  rcases h.ev x f hx hr with h1 | ⟨T, xs, h1⟩
  · exact h1
  · exact absurd h1 (hv T xs)
theorem view_of {l : List (Nat × F)} {rd : List Nat} {σ : Sta} {V : Addr → Prop} {ρ : Nat → Nat} {tv : Nat → Value} {a : Act} {w : World} (hσ : ∀ k, k ∈ rd → σ k = find l k) (htv : ∀ t, t < 1000 → tv t = a.tmps.getD t undef) (h : RR V ρ tv w σ) :
    View l rd (cold V σ ρ tv w) ρ tv a w where
  ev x f hx hr := by
    cases x with
    | tmp t =>
      simp only [opd] at hx
      cases hb : Nat.blt t 1000 with
      | false => rw [hb] at hx; cases hx
      | true =>
        rw [hb] at hx
        have ht : t < 1000 := by
          exact Nat.le_of_ble_eq_true hb
        have := h.rel t f (by rw [hσ t (hr t (by simp [rdOf]))]; exact hx)
        have e : a.eval (.tmp t) = tv t := (htv t ht).symm
        rw [e]
        cases f with
        | var T xs => exact .inr ⟨T, xs, rfl⟩
        | _ => exact .inl this
    | const v =>
      refine .inl ?_
      show FV _ _ _ f v
      simp only [opd, cst] at hx
      cases v with
      | agg cs =>
        cases hb : cs.all (·.oneCell') with
        | false => simp [hb] at hx
        | true =>
          simp only [hb, cond_true, Option.some.injEq] at hx
          subst hx
          refine ⟨cs.toList, by simp, LIn.of (by simp) (fun j d v h1 h2 => ?_)⟩
          rw [List.getElem?_map, h2] at h1
          simp at h1
          subst h1
          exact .lit v ((Array.all_eq_true_iff_forall_mem.1 hb) v (by
            have := List.mem_of_getElem? h2
            simpa using this))
      | tuple cs => cases hx
      | _ => cases hx; exact .lit _ rfl
    | global g => cases hx
    | func g => cases hx
  vr x T xs hx hr := h.rel x (.var T xs) (by rw [hσ x hr]; exact hx)

/-- what an operation does: it reads the keys rd as l has them; it leaves post -/
def Does (P : Program) (o : Oper) (rd : List Nat) (fresh : List (Nat × List Nat)) (l post : List (Nat × F)) : Prop :=
  ∀ (e : Env) (σ : Sta) (a : Act) (w : World) (next : Act → World → Prop) (Q : Exit → Act → World → Prop), e.n ≤ 1000 → (∀ d, o.dst = some d → d < e.n) → (∀ k, k ∈ rd → σ k = find l k) →
    (∀ q, q ∈ fresh → q.1 ∉ e.ins ∧ ∀ k f, k ∉ q.2 → σ k = some f → refB q.1 f = false) → R e σ a w → (∀ a' w', R e (upd σ post) a' w' → next a' w') → o.wp P a w next Q

theorem Does.val {P : Program} {o : Oper} {rd : List Nat} {l : List (Nat × F)} {d : Nat} {f : F} (hd : o.dst = some d) (hp : Plain f)
    (h : ∀ S ρ tv a w, View l rd S ρ tv a w → ∃ v, (execOp a.eval o).run P w = .ok (.value v) w ∧ FV S ρ w f v) : Does P o rd [] l [(d, f)] := by
  intro e σ a w next Q hn hdn hσ _ hR hnext
  obtain ⟨hdf, hsz, hfr, ρ, tv, htv, hin, hvz, hrr⟩ := hR
  obtain ⟨v, hrun, hf⟩ := h _ ρ tv a w (view_of hσ htv hrr)
  unfold Oper.wp
  rw [hrun, Oper.upon_value, hd]
  exact hnext _ _ (R.put hdf hsz hfr htv hin hvz hrr (hdn d hd) hn hp hf)

/-! ### operations that leave the world alone -/
section
variable {P : Program} {o : Oper} {l : List (Nat × F)} {d : Nat}
theorem lit_val {S : Addr → Prop} {ρ : Nat → Nat} {w : World} {x v : Value} (h : FV S ρ w (.c (.lit x)) v) : v = x := by cases h; rfl

theorem r_move {x : Operand} {f : F} (ho : o.op = .move x) (hd : o.dst = some d) (hx : opd l x = some f) (hp : Plain f) : Does P o (rdOf x) [] l [(d, f)] :=
  Does.val hd hp fun S ρ tv a w hv => ⟨a.eval x, by unfold execOp; rw [ho]; rfl, hv.fv hx (fun _ h => h) (by intro T xs e; rw [e] at hp; exact hp)⟩
theorem r_assign {x : Operand} {f : F} (ho : o.op = .assign x) (hd : o.dst = some d) (hx : opd l x = some f) (hp : Plain f) : Does P o (rdOf x) [] l [(d, f)] :=
  Does.val hd hp fun S ρ tv a w hv => ⟨a.eval x, by unfold execOp; rw [ho]; rfl, hv.fv hx (fun _ h => h) (by intro T xs e; rw [e] at hp; exact hp)⟩
/-- whatever two literals give -/
theorem r_bin {op : BinOp} {T T' : TypeId} {x y : Operand} {u v r : Value} (ho : o.op = .binOp op T x y T') (hd : o.dst = some d) (hx : opd l x = some (.c (.lit u))) (hy : opd l y = some (.c (.lit v)))
    (h1 : r.oneCell' = true) (h : ∀ w, (do eqGuard op T x y u v; binOp op T u v : Sem Value).run P w = .ok r w) : Does P o (rdOf x ++ rdOf y) [] l [(d, .c (.lit r))] :=
  Does.val hd trivial fun S ρ tv a w hv => ⟨r, by
    have e1 := lit_val (hv.fv hx (fun _ h => List.mem_append_left _ h) (by intro T xs e; cases e))
    have e2 := lit_val (hv.fv hy (fun _ h => List.mem_append_right _ h) (by intro T xs e; cases e))
    unfold execOp
    rw [ho]
    show Sem.run P (do let v ← (do eqGuard op T x y (a.eval x) (a.eval y); binOp op T (a.eval x) (a.eval y)); pure (Next.value v)) w = _
    rw [e1, e2, Sem.run_bind, h w]
    rfl, .lit r h1⟩
/-- whatever one literal gives -/
theorem r_un {x : Operand} {u r : Value} (k : Value → Sem Value) (ho : ∀ ev, execOp ev o = (do pure (.value (← k (ev x))) : Sem Next)) (hd : o.dst = some d) (hx : opd l x = some (.c (.lit u)))
    (h1 : r.oneCell' = true) (h : ∀ w, (k u).run P w = .ok r w) : Does P o (rdOf x) [] l [(d, .c (.lit r))] :=
  Does.val hd trivial fun S ρ tv a w hv => ⟨r, by
    have e1 := lit_val (hv.fv hx (fun _ h => h) (by intro T xs e; cases e))
    rw [ho, e1, Sem.run_bind, h w]
    rfl, .lit r h1⟩

theorem r_eqI {T T' : TypeId} {x y : Operand} {k : IntKind} {i j : Int} (ho : o.op = .binOp .eql T x y T') (hd : o.dst = some d) (hx : opd l x = some (.c (.lit (.int k i)))) (hy : opd l y = some (.c (.lit (.int k j)))) :
    Does P o (rdOf x ++ rdOf y) [] l [(d, .c (.lit (.bool (decide (i = j)))))] :=
  r_bin ho hd hx hy rfl fun w => by simp [eqGuard, binOp, Op.intCmp]; rfl
theorem r_neI {T T' : TypeId} {x y : Operand} {k : IntKind} {i j : Int} (ho : o.op = .binOp .neq T x y T') (hd : o.dst = some d) (hx : opd l x = some (.c (.lit (.int k i)))) (hy : opd l y = some (.c (.lit (.int k j)))) :
    Does P o (rdOf x ++ rdOf y) [] l [(d, .c (.lit (.bool (!decide (i = j)))))] :=
  r_bin ho hd hx hy rfl fun w => by simp [eqGuard, binOp, Op.intCmp]; rfl
theorem r_ltI {T T' : TypeId} {x y : Operand} {k : IntKind} {i j : Int} (ho : o.op = .binOp .lss T x y T') (hd : o.dst = some d) (hx : opd l x = some (.c (.lit (.int k i)))) (hy : opd l y = some (.c (.lit (.int k j)))) :
    Does P o (rdOf x ++ rdOf y) [] l [(d, .c (.lit (.bool (decide (i < j)))))] :=
  r_bin ho hd hx hy rfl fun w => by simp [eqGuard, binOp, Op.intCmp]
theorem r_leI {T T' : TypeId} {x y : Operand} {k : IntKind} {i j : Int} (ho : o.op = .binOp .leq T x y T') (hd : o.dst = some d) (hx : opd l x = some (.c (.lit (.int k i)))) (hy : opd l y = some (.c (.lit (.int k j)))) :
    Does P o (rdOf x ++ rdOf y) [] l [(d, .c (.lit (.bool (decide (i ≤ j)))))] :=
  r_bin ho hd hx hy rfl fun w => by simp [eqGuard, binOp, Op.intCmp]
theorem r_gtI {T T' : TypeId} {x y : Operand} {k : IntKind} {i j : Int} (ho : o.op = .binOp .gtr T x y T') (hd : o.dst = some d) (hx : opd l x = some (.c (.lit (.int k i)))) (hy : opd l y = some (.c (.lit (.int k j)))) :
    Does P o (rdOf x ++ rdOf y) [] l [(d, .c (.lit (.bool (decide (j < i)))))] :=
  r_bin ho hd hx hy rfl fun w => by simp [eqGuard, binOp, Op.intCmp]
theorem r_geI {T T' : TypeId} {x y : Operand} {k : IntKind} {i j : Int} (ho : o.op = .binOp .geq T x y T') (hd : o.dst = some d) (hx : opd l x = some (.c (.lit (.int k i)))) (hy : opd l y = some (.c (.lit (.int k j)))) :
    Does P o (rdOf x ++ rdOf y) [] l [(d, .c (.lit (.bool (decide (j ≤ i)))))] :=
  r_bin ho hd hx hy rfl fun w => by simp [eqGuard, binOp, Op.intCmp]
theorem r_addI {T T' : TypeId} {x y : Operand} {i j : Int} (ho : o.op = .binOp .add T x y T') (hd : o.dst = some d) (hx : opd l x = some (.c (.lit (.int .i64 i)))) (hy : opd l y = some (.c (.lit (.int .i64 j))))
    (hb : -9223372036854775808 ≤ i + j ∧ i + j ≤ 9223372036854775807) : Does P o (rdOf x ++ rdOf y) [] l [(d, .c (.lit (.int .i64 (i + j))))] :=
  r_bin ho hd hx hy rfl fun w => by
    have := IntWalk.i64_in (i + j) hb
    simp [eqGuard, binOp, Op.intArith, this]
theorem r_subI {T T' : TypeId} {x y : Operand} {i j : Int} (ho : o.op = .binOp .sub T x y T') (hd : o.dst = some d) (hx : opd l x = some (.c (.lit (.int .i64 i)))) (hy : opd l y = some (.c (.lit (.int .i64 j))))
    (hb : -9223372036854775808 ≤ i - j ∧ i - j ≤ 9223372036854775807) : Does P o (rdOf x ++ rdOf y) [] l [(d, .c (.lit (.int .i64 (i - j))))] :=
  r_bin ho hd hx hy rfl fun w => by
    have := IntWalk.i64_in (i - j) hb
    simp [eqGuard, binOp, Op.intArith, this]
theorem r_eqS {T T' : TypeId} {x y : Operand} {s t : List UInt8} (ho : o.op = .binOp .eql T x y T') (hd : o.dst = some d) (hx : opd l x = some (.c (.lit (str s)))) (hy : opd l y = some (.c (.lit (str t)))) :
    Does P o (rdOf x ++ rdOf y) [] l [(d, .c (.lit (.bool (s == t))))] :=
  r_bin ho hd hx hy rfl fun w => by simp [eqGuard, binOp, Op.stringOp]
theorem r_neS {T T' : TypeId} {x y : Operand} {s t : List UInt8} (ho : o.op = .binOp .neq T x y T') (hd : o.dst = some d) (hx : opd l x = some (.c (.lit (str s)))) (hy : opd l y = some (.c (.lit (str t)))) :
    Does P o (rdOf x ++ rdOf y) [] l [(d, .c (.lit (.bool (!(s == t)))))] :=
  r_bin ho hd hx hy rfl fun w => by simp [eqGuard, binOp, Op.stringOp]
theorem r_not {T : TypeId} {x : Operand} {b : Bool} (ho : o.op = .unOp .not T x) (hd : o.dst = some d) (hx : opd l x = some (.c (.lit (.bool b)))) : Does P o (rdOf x) [] l [(d, .c (.lit (.bool (!b))))] :=
  r_un (fun v => Op.unary .not v) (fun ev => by unfold execOp; rw [ho]) hd hx rfl fun w => by simp [Op.unary]
theorem r_extract {x : Operand} {i : Nat} {xs : List E} {e : E} {f : F} (ho : o.op = .extract x i) (hd : o.dst = some d) (hx : opd l x = some (.tup xs)) (he : xs[i]? = some e) (hf : f = (match e with | .c d => .c d | .agg ds => .agg ds)) :
    Does P o (rdOf x) [] l [(d, f)] :=
  Does.val hd (by subst hf; cases e <;> trivial) fun S ρ tv a w hv => by
    obtain ⟨vs, h1, h2⟩ := hv.fv hx (fun _ h => h) (by intro T xs e; cases e)
    obtain ⟨v, h3, h4⟩ := h2.get i e he
    refine ⟨v, ?_, ?_⟩
    · unfold execOp
      rw [ho]
      simp only [h1, Instr.extract, List.getElem?_toArray, h3, Sem.run_bind]
      rfl
    · subst hf
      cases e <;> exact h4
theorem r_nilCheck {x : Operand} {y n : Nat} (ho : o.op = .nilCheck x) (hd : o.dst = some d) (hx : opd l x = some (.ptr y n)) : Does P o (rdOf x) [] l [(d, .ptr y n)] :=
  Does.val hd trivial fun S ρ tv a w hv => by
    have h1 := hv.fv hx (fun _ h => h) (by intro T xs e; cases e)
    refine ⟨_, ?_, h1⟩
    have h2 : a.eval x = .pointer (some ⟨ρ y, n, none⟩) := h1
    simp only [execOp, ho, h2]
    rfl
theorem r_nilCheckEl {x : Operand} {row : List D} {n : Nat} (ho : o.op = .nilCheck x) (hd : o.dst = some d) (hx : opd l x = some (.el row n)) : Does P o (rdOf x) [] l [(d, .el row n)] :=
  Does.val hd trivial fun S ρ tv a w hv => by
    have h1 := hv.fv hx (fun _ h => h) (by intro T xs e; cases e)
    refine ⟨_, ?_, h1⟩
    obtain ⟨p, h2, _⟩ := h1
    simp only [execOp, ho, h2]
    rfl
end

end Go.Proofs.YtoadmjnaakbljaaDoor
