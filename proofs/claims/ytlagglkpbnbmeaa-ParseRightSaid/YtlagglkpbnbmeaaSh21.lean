/- Shadows: an operation that runs as another one does; a call of a function that came in as a value. -/
import Derived.Test.YtlagglkpbnbmeaaShZ
namespace Go.Proofs.Ytlagglkpbnbmeaa
open Go Go.RowKit
set_option linter.unusedVariables false

section
variable {P : Program} {o o' : Oper} {l : List (Nat × F)}
theorem Does.like {rd rdx : List Nat} {fr : List (Nat × List Nat)} {post : List (Nat × F)} (h : Does P o' rd fr l post) (hd : o.dst = o'.dst)
    (hrun : ∀ S ρ tv a w, View l rdx S ρ tv a w → (execOp a.eval o).run P w = (execOp a.eval o').run P w) : Does P o (rd ++ rdx) fr l post := by
  intro e σ a w next Q hn hdn hσ hf hR hnext
  have hv : ∃ S ρ tv, View l rdx S ρ tv a w := by
    obtain ⟨hdf, hsz, hfr, ρ, tv, htv, hin, hvz, hrr⟩ := hR
    exact ⟨_, ρ, tv, view_of (fun k hk => hσ k (List.mem_append_right _ hk)) htv hrr⟩
  obtain ⟨S, ρ, tv, hv⟩ := hv
  have h1 := h e σ a w next Q hn (fun d hd' => hdn d (hd.trans hd')) (fun k hk => hσ k (List.mem_append_left _ hk)) hf hR hnext
  have hr := hrun S ρ tv a w hv
  unfold wq at h1 ⊢
  rw [hr]
  unfold uq at h1 ⊢
  rw [hd]
  exact h1
/-- what a constant function is, as a value -/
abbrev fnV (f : FuncId) : Value := .func (.func f) #[] #[]
/-- a call of a function that came in as a value -/
theorem r_callv {t d : Nat} {f : FuncId} {args : Array Operand} {ts : Array TypeId} {fs : List F} {vs vs' : List (Nat × F)} {r : F} (hC : Con P f fs vs r vs') (ho : o.op = .call { callee := .value (.tmp t), args := args, argTypes := ts }) (hd : o.dst = some d)
    (ht : opd l (.tmp t) = some (.c (.lit (fnV f)))) (ha : argsF l args.toList = some fs) (hvs : sub vs l) (hcf : callOK P f = true) (hck : (keysOK vs vs' r && oneOwn fs && ghostsOK vs' && Nat.ble fs.length 1000) = true) :
    Does P o ((args.toList.flatMap rdOf ++ vs.map (·.1)) ++ [t]) (frCall vs vs') l (postCall l d r args.toList vs vs') :=
  (r_call (o := { o with op := .call { callee := .value (.func f), args := args, argTypes := ts } }) hC rfl hd ha hvs (by rw [hcf, Bool.true_and]; exact hck)).like rfl fun S ρ tv a w hv => by
    have e1 : a.eval (.tmp t) = fnV f := lit_val (hv.fv ht (fun _ h => by simpa [rdOf] using h) (by intro T xs e; cases e))
    have e2 : a.eval (.func f) = fnV f := rfl
    simp only [execOp, ho, resolve, e1, e2]
/-- a call that is handed functions: as if they were constants -/
def fnArg : Operand → Operand
  | .func f => .const (fnV f)
  | x => x
theorem fnArg_eval (a : Act) (x : Operand) : a.eval (fnArg x) = a.eval x := by cases x <;> rfl
theorem r_callF {d : Nat} {f : FuncId} {args : Array Operand} {ts : Array TypeId} {fs : List F} {vs vs' : List (Nat × F)} {r : F} (hC : Con P f fs vs r vs') (ho : o.op = .call { callee := .value (.func f), args := args, argTypes := ts }) (hd : o.dst = some d)
    (ha : argsF l (args.toList.map fnArg) = some fs) (hvs : sub vs l) (hck : (callOK P f && keysOK vs vs' r && oneOwn fs && ghostsOK vs' && Nat.ble fs.length 1000) = true) :
    Does P o (((args.toList.map fnArg).flatMap rdOf ++ vs.map (·.1)) ++ []) (frCall vs vs') l (postCall l d r (args.toList.map fnArg) vs vs') :=
  (r_call (o := { o with op := .call { callee := .value (.func f), args := (args.toList.map fnArg).toArray, argTypes := ts } }) hC rfl hd ha hvs hck).like rfl fun S ρ tv a w hv => by
    have e1 : ((args.toList.map fnArg).toArray).map a.eval = args.map a.eval := by
      cases args with
      | mk xs =>
        simp only [List.map_toArray, List.map_map]
        congr 1
        apply List.map_congr_left
        intro x _
        exact fnArg_eval a x
    have hc : callOK P f = true := by
      simp only [Bool.and_eq_true] at hck
      exact hck.1.1.1.1
    rw [run_call ho hc a w, run_call (o := { o with op := .call { callee := .value (.func f), args := (args.toList.map fnArg).toArray, argTypes := ts } }) rfl hc a w, e1]
/-- row[lo:hi] -/
theorem r_sliceMid {d : Nat} {T e : TypeId} {sz : Nat} {x y z : Operand} {els : List (List D)} {k m : Nat} (ho : o.op = .slice T x (some y) (some z) none) (hd : o.dst = some d) (hT : elemOf? P T = some (e, sz)) (hx : opd l x = some (.c (.sl sz els))) (hy : opd l y = some (.c (.lit (.int .i64 (k : Int))))) (hz0 : opd l z = some (.c (.lit (.int .i64 (m : Int))))) (hkm : k ≤ m) (hm : m ≤ els.length) :
    Does P o (rdOf x ++ (rdOf y ++ rdOf z)) [] l [(d, .c (.sl sz ((els.drop k).take (m - k))))] :=
  Does.val hd trivial fun S ρ tv a w hv => by
    have e1 := lit_val (hv.fv hy (fun _ h => List.mem_append_right _ (List.mem_append_left _ h)) (by intro T xs e; cases e))
    have e2 := lit_val (hv.fv hz0 (fun _ h => List.mem_append_right _ (List.mem_append_right _ h)) (by intro T xs e; cases e))
    obtain ⟨A, c, h1, hc, hne, hr, hcells⟩ := DIn.row (hv.fv hx (fun _ h => List.mem_append_left _ h) (by intro T xs e; cases e))
    obtain ⟨hu, hs⟩ := elemOf?_some hT
    have hel : P.elem T = e := by unfold Program.elem; rw [hu]
    have hl : ((els.drop k).take (m - k)).length = m - k := by rw [List.length_take, List.length_drop]; omega
    refine ⟨.slice (if c = k then A else A.map (·.add (k * sz))) (m - k) (c - k), ?_, ?_⟩
    · simp only [execOp, ho, h1, e1, e2, Option.map_none, Option.map_some]
      have hz : (sizeOf (P.elem T)).run P w = .ok sz w := by
        rw [hel]
        unfold sizeT at hs
        cases hi : P.info? e with
        | none => rw [hi] at hs; cases hs
        | some i => rw [hi] at hs; simp only [Option.map_some, Option.some.injEq] at hs; simp [sizeOf, typeInfo, hi, hs]
      have hrun := run_slice_lh (P := P) w T A els.length c (by rw [hel]; exact hu) .i64 .i64 (k : Int) (m : Int) (by omega) (by omega) (by omega)
      rw [hz, Result.andThen_ok] at hrun
      rw [Sem.run_bind, run_sliceAt_slice (P := P) w T _ _ _ _ (by rw [hel]; exact hu), hrun]
      rfl
    · show DIn S w (.sl sz ((els.drop k).take (m - k))) _
      refine .ofRow hl.symm (by rw [hl]; omega) (fun h0 => ?_) (fun r hr' => hr r (List.mem_of_mem_drop (List.mem_of_mem_take hr'))) (fun i j dd hij => ?_)
      · rw [hl] at h0
        obtain ⟨ad, hA⟩ := hne (by omega)
        split
        · exact ⟨ad, hA⟩
        · rw [hA]; exact ⟨_, rfl⟩
      · unfold D.at at hij
        rw [List.getElem?_take] at hij
        split at hij
        · rename_i hi
          rw [List.getElem?_drop] at hij
          obtain ⟨ad, u, hA, hS, hcl, hdi⟩ := hcells (k + i) j dd hij
          rw [if_neg (by omega), hA]
          refine ⟨ad.add (k * sz), u, rfl, ?_, ?_, hdi⟩
          · rw [add_add', show k * sz + (i * sz + j) = (k + i) * sz + j by rw [Nat.add_mul]; omega]; exact hS
          · rw [add_add', show k * sz + (i * sz + j) = (k + i) * sz + j by rw [Nat.add_mul]; omega]; exact hcl
        · cases hij
end

end Go.Proofs.Ytlagglkpbnbmeaa
