/- Shadows: a function's contract, a call. -/
import Derived.Test.YtoadmjnaakbljaaDoorSh7
namespace Go.Proofs.YtoadmjnaakbljaaDoor
set_option linter.unusedVariables false
open Go Go.RowKit

def nums : Nat → List F → List (Nat × F)
  | _, [] => []
  | i, f :: r => (i, f) :: nums (i + 1) r
theorem find_nums : ∀ (fs : List F) (i k : Nat), find (nums i fs) k = if i ≤ k then fs[k - i]? else none
  | [], i, k => by simp [nums, find]
  | f :: r, i, k => by
    rw [nums, find_cons, find_nums r (i + 1) k]
    by_cases h : i = k
    · subst h; simp
    · rw [if_neg h]
      by_cases h2 : i + 1 ≤ k
      · rw [if_pos h2, if_pos (by omega), show k - i = (k - (i + 1)) + 1 by omega]; simp
      · rw [if_neg h2, if_neg (by omega)]
/-- the state in which a call begins -/
def ini (fs : List F) (vs : List (Nat × F)) : List (Nat × F) := nums 0 fs ++ vs
/-- called with arguments of which fs is known, and with what vs tells of variables that came in, f returns r, and of the variables vs' is known then -/
def Con (P : Program) (f : FuncId) (fs : List F) (vs : List (Nat × F)) (r : F) (vs' : List (Nat × F)) : Prop :=
  ∀ (V : Addr → Prop) (ρ : Nat → Nat) (tv : Nat → Value) (w : World) (args : Array Value) (B : Nat), args.size = fs.length → (∀ i, i < args.size → tv i = args.getD i undef) → RR V ρ tv w (find (ini fs vs)) → TT B w → (∀ p, vol (find (ini fs vs)) ρ tv p → B ≤ p.block) → B ≤ w.heap.size →
    Calls P f args w fun e w' => ∃ v tv', e = .returned v ∧ tv' 0 = v ∧ Fr (vol (find (ini fs vs)) ρ tv) w w' ∧ RR V ρ tv' w' (find ((0, r) :: vs')) ∧ ∀ p, vol (find ((0, r) :: vs')) ρ tv' p → vol (find (ini fs vs)) ρ tv p ∨ w.heap.size ≤ p.block

def resE (P : Program) (l : List (Nat × F)) : ResultVar → Option E
  | .tmp t => bif Nat.blt t 1000 then (match find l t with
    | some (.c d) => some (.c d)
    | some (.agg ds) => some (.agg ds)
    | _ => none) else none
  | .cell a T => bif Nat.blt a 1000 then (match find l a with
    | some (.ptr x o) => (match find l x with
      | some (.var _ xs) => (match aggN P T with
        | some m => (plainCs ((xs.drop o).take m)).bind fun ds => bif Nat.beq ds.length m then some (.agg ds) else none
        | none => bif plainT P T then (match xs[o]? with | some (.d d) => some (.c d) | _ => none) else none)
      | _ => none)
    | _ => none) else none
def resEs (P : Program) (l : List (Nat × F)) : List ResultVar → Option (List E)
  | [] => some []
  | x :: r => match resE P l x, resEs P l r with
    | some e, some es => some (e :: es)
    | _, _ => none
/-- what the results are -/
def resF (P : Program) (l : List (Nat × F)) : List ResultVar → Option F
  | [.tmp t] => bif Nat.blt t 1000 then (match find l t with
    | some (.var _ _) => none
    | some (.ptr _ _) => none
    | x => x) else none
  | [x] => (resE P l x).map fun | .c d => .c d | .agg ds => .agg ds
  | xs => (resEs P l xs).map .tup

def resV (tmps : Array Value) : ResultVar → Sem Value
  | .tmp t => pure (tmps.getD t undef)
  | .cell a t => do loadVar t (← asAddr (tmps.getD a undef))
theorem results_eq (fn : Func) (tmps : Array Value) : results fn tmps = (do let vs ← fn.results.mapM (resV tmps); pure (if h : vs.size = 1 then vs[0] else .tuple vs) : Sem Value) := by
  unfold results
  have : (fun x : ResultVar => match x with | .tmp t => (pure (tmps.getD t undef) : Sem Value) | .cell a t => do loadVar t (← asAddr (tmps.getD a undef))) = resV tmps := by
    funext x
    cases x <;> rfl
  rw [← this]
  rfl
theorem resE_ok {P : Program} {l : List (Nat × F)} {x : ResultVar} {e : E} {V : Addr → Prop} {ρ : Nat → Nat} {tv : Nat → Value} {w : World} {tmps : Array Value} (h : resE P l x = some e) (htv : ∀ t, t < 1000 → tv t = tmps.getD t undef) (hrr : RR V ρ tv w (find l)) :
    ∃ v, (resV tmps x).run P w = .ok v w ∧ EIn (cold V (find l) ρ tv w) w e v := by
  cases x with
  | tmp t =>
    simp only [resE] at h
    cases hb : Nat.blt t 1000 with
    | false => rw [hb] at h; cases h
    | true =>
      have ht : t < 1000 := Nat.le_of_ble_eq_true hb
      rw [hb, cond_true] at h
      refine ⟨tmps.getD t undef, rfl, ?_⟩
      rw [← htv t ht]
      split at h
      · rename_i d hf; cases h; exact hrr.rel t _ hf
      · rename_i ds hf; cases h; exact hrr.rel t _ hf
      · cases h
  | cell a T =>
    simp only [resE] at h
    cases hb : Nat.blt a 1000 with
    | false => rw [hb] at h; cases h
    | true =>
      have ht : a < 1000 := Nat.le_of_ble_eq_true hb
      rw [hb, cond_true] at h
      split at h
      · rename_i y o hf
        have hp : tv a = .pointer (some ⟨ρ y, o, none⟩) := hrr.rel a _ hf
        rw [htv a ht] at hp
        split at h
        · rename_i T0 xs hy
          obtain ⟨vs, h1, h2⟩ := hrr.rel y _ hy
          split at h
          · rename_i m hm
            rw [Option.bind_eq_some_iff] at h
            obtain ⟨ds, h3, h4⟩ := h
            cases hb2 : Nat.beq ds.length m with
            | false => rw [hb2] at h4; cases h4
            | true =>
              rw [hb2] at h4
              cases h4
              have h5 := (h2.drop o).take m
              rw [plainCs_ok h3] at h5
              have h6 := h5.plain
              refine ⟨_, ?_, _, rfl, h6⟩
              have := run_load_agg (P := P) (p := ⟨ρ y, o, none⟩) hm (w := w) (vs := (vs.drop o).take m) (by rw [← h6.len, Nat.eq_of_beq_eq_true hb2]) (fun j v hj => by
                rw [addr_add, row_cell h1]
                rw [List.getElem?_take] at hj
                split at hj
                · rw [List.getElem?_drop] at hj; exact hj
                · cases hj)
              simp only [Instr.loadAt, Instr.sureAddr, Sem.run_bind, Sem.run_pure, Result.andThen_ok] at this
              simp only [resV, Sem.run_bind, hp, asAddr, Sem.run_pure, Result.andThen_ok]
              exact this
          · rename_i hm
            cases hb2 : plainT P T with
            | false => rw [hb2] at h; cases h
            | true =>
              rw [hb2, cond_true] at h
              split at h
              · rename_i d hd
                cases h
                obtain ⟨v, h4, h5⟩ := h2.get o _ hd
                refine ⟨v, ?_, h5.1⟩
                have := run_load_plain (P := P) (p := ⟨ρ y, o, none⟩) hb2 (w := w) (v := v) ((row_cell h1 o).trans h4)
                simp only [Instr.loadAt, Instr.sureAddr, Sem.run_bind, Sem.run_pure, Result.andThen_ok] at this
                simp only [resV, Sem.run_bind, hp, asAddr, Sem.run_pure, Result.andThen_ok]
                exact this
              · cases h
        · cases h
      · cases h
theorem resEs_ok {P : Program} {l : List (Nat × F)} {V : Addr → Prop} {ρ : Nat → Nat} {tv : Nat → Value} {w : World} {tmps : Array Value} (htv : ∀ t, t < 1000 → tv t = tmps.getD t undef) (hrr : RR V ρ tv w (find l)) : ∀ (xs : List ResultVar) (es : List E), resEs P l xs = some es →
    ∃ vs : List Value, (xs.mapM (resV tmps)).run P w = .ok vs w ∧ TIn (cold V (find l) ρ tv w) w es vs ∧ vs.length = xs.length
  | [], es, h => by cases h; exact ⟨[], rfl, trivial, rfl⟩
  | x :: r, es, h => by
    rw [resEs] at h
    split at h
    · rename_i e es' h1 h2
      cases h
      obtain ⟨v, h3, h4⟩ := resE_ok h1 htv hrr
      obtain ⟨vs, h5, h6, h7⟩ := resEs_ok htv hrr r es' h2
      refine ⟨v :: vs, ?_, ⟨h4, h6⟩, by simp [h7]⟩
      rw [List.mapM_cons, Sem.run_bind, h3, Result.andThen_ok, Sem.run_bind, h5]
      rfl
    · cases h

/-- the facts of a result at key 0 -/
def Res (f : F) : Prop := match f with | .var _ _ | .ptr _ _ => False | _ => True
theorem RR.result {V : Addr → Prop} {ρ ρ' : Nat → Nat} {tv tv' : Nat → Value} {w : World} {l vs' : List (Nat × F)} {r : F} (h : RR V ρ tv w (find l)) (hr : Res r) (hvs : ∀ k f, find vs' k = some f → find l k = some f ∧ 1000 ≤ k ∧ tv' k = tv k) (hg : ∀ g, 1000 ≤ g → tv' g = tv g)
    (hρ : ∀ k T xs, find vs' k = some (.var T xs) → ρ' k = ρ k) (hnp : ∀ k x o, find vs' k ≠ some (.ptr x o))
    (hown : (∃ t, t < 1000 ∧ find l t = some r ∧ tv' 0 = tv t) ∨ (Plain r ∧ FV (cold V (find l) ρ tv w) ρ w r (tv' 0))) :
    RR V ρ' tv' w (find ((0, r) :: vs')) ∧ ∀ p, vol (find ((0, r) :: vs')) ρ' tv' p → vol (find l) ρ tv p := by
  have hf0 : ∀ k f, find ((0, r) :: vs') k = some f → (k = 0 ∧ f = r) ∨ (k ≠ 0 ∧ find vs' k = some f) := by
    intro k f hk
    rw [find_cons] at hk
    by_cases e : 0 = k
    · rw [if_pos e] at hk; cases hk; exact .inl ⟨e.symm, rfl⟩
    · rw [if_neg e] at hk; exact .inr ⟨fun e2 => e e2.symm, hk⟩
  -- what a key alone may write: another key of the state before
  have hex : ∀ k f b, find ((0, r) :: vs') k = some f → ex ρ' tv' k f = some b → ∃ k0, find l k0 = some f ∧ ex ρ tv k0 f = some b ∧ (k = 0 → k0 < 1000) ∧ (k ≠ 0 → k0 = k ∧ 1000 ≤ k) := by
    intro k f b hk hb
    rcases hf0 k f hk with ⟨rfl, rfl⟩ | ⟨h0, hk'⟩
    · rcases hown with ⟨t, ht, hlt, htv⟩ | ⟨hp, _⟩
      · refine ⟨t, hlt, ?_, fun _ => ht, fun e => absurd rfl e⟩
        cases f with
        | own T sz els => simp only [ex, htv] at hb ⊢; exact hb
        | var T xs => exact hr.elim
        | _ => cases hb
      · rw [hp.ex] at hb; cases hb
    · obtain ⟨h1, h2, h3⟩ := hvs k f hk'
      refine ⟨k, h1, ?_, fun e => absurd e h0, fun _ => ⟨rfl, h2⟩⟩
      cases f with
      | own T sz els => simp only [ex, h3] at hb ⊢; exact hb
      | var T xs => simp only [ex, hρ k T xs hk'] at hb ⊢; exact hb
      | _ => cases hb
  have hvol : ∀ p, vol (find ((0, r) :: vs')) ρ' tv' p → vol (find l) ρ tv p := by
    rintro p ⟨k, f, h1, h2, h3⟩
    obtain ⟨k0, h4, h5, _⟩ := hex k f _ h1 h2
    exact ⟨k0, f, h4, h5, h3⟩
  have hcold : ∀ p, cold V (find l) ρ tv w p → cold V (find ((0, r) :: vs')) ρ' tv' w p := fun p hp => ⟨hp.1, hp.2.1, fun e => hp.2.2 (hvol p e)⟩
  refine ⟨h.to (Nat.le_refl _) (fun p hp => ⟨(hcold p hp).2.2, rfl⟩) (fun k f hk => ?_) (fun k f k' f' b h1 h2 h3 h4 => ?_) (fun k f b h1 h2 => ?_), hvol⟩
  · rcases hf0 k f hk with ⟨rfl, rfl⟩ | ⟨h0, hk'⟩
    · refine .inr (KV.fv ?_)
      rcases hown with ⟨t, ht, hlt, htv⟩ | ⟨hp, hv⟩
      · rw [htv]
        have := h.rel t f hlt
        have hfv : FV (cold V (find l) ρ tv w) ρ w f (tv t) := by
          cases f with
          | var T xs => exact hr.elim
          | _ => exact this
        exact FV.mono (ρ := ρ) hcold (fun _ _ => rfl) (fun x o e => by rw [e] at hr; exact hr.elim) (fun _ _ _ _ _ _ => rfl) hfv
      · exact FV.mono (ρ := ρ) hcold (fun _ _ => rfl) (fun x o e => by rw [e] at hr; exact hr.elim) (fun _ _ _ _ _ _ => rfl) hv
    · obtain ⟨h1, h2, h3⟩ := hvs k f hk'
      exact .inl ⟨h1, h.same h1 h3 hg (fun T xs e => hρ k T xs (by rw [hk', e])) (fun x o e => absurd (by rw [hk', e]) (hnp k x o)) (fun _ _ => rfl)⟩
  · obtain ⟨a0, a1, a2, a3, a4⟩ := hex _ _ _ h1 h3
    obtain ⟨b0, b1, b2, b3, b4⟩ := hex _ _ _ h2 h4
    have e := h.dist _ _ _ _ _ a1 b1 a2 b2
    by_cases hk : k = 0 <;> by_cases hk' : k' = 0
    · omega
    · have := a3 hk; have := b4 hk'; omega
    · have := b3 hk'; have := a4 hk; omega
    · have := a4 hk; have := b4 hk'; omega
  · obtain ⟨a0, a1, a2, _, _⟩ := hex _ _ _ h1 h2
    exact h.exb _ _ _ a1 a2

inductive WkE : E → E → Prop
  | refl (x : E) : WkE x x
  | c {x y : D} : WkD x y → WkE (.c x) (.c y)
  | agg {xs ys : List D} : WkDs xs ys → WkE (.agg xs) (.agg ys)
def WkEs : List E → List E → Prop
  | [], [] => True
  | x :: xs, y :: ys => WkE x y ∧ WkEs xs ys
  | _, _ => False
inductive WkF : F → F → Prop
  | refl (x : F) : WkF x x
  | c {x y : D} : WkD x y → WkF (.c x) (.c y)
  | agg {xs ys : List D} : WkDs xs ys → WkF (.agg xs) (.agg ys)
  | tup {xs ys : List E} : WkEs xs ys → WkF (.tup xs) (.tup ys)
theorem WkE.ok {S : Addr → Prop} {w : World} {x y : E} {v : Value} (h : WkE x y) (hx : EIn S w x v) : EIn S w y v := by
  cases h with
  | refl => exact hx
  | c h => exact h.ok hx
  | agg h => obtain ⟨vs, h1, h2⟩ := hx; exact ⟨vs, h1, h.ok h2⟩
theorem WkEs.ok {S : Addr → Prop} {w : World} : ∀ {xs ys : List E} {vs : List Value}, WkEs xs ys → TIn S w xs vs → TIn S w ys vs
  | [], [], [], _, _ => trivial
  | _ :: _, _ :: _, _ :: _, hw, hl => ⟨hw.1.ok hl.1, WkEs.ok hw.2 hl.2⟩
  | [], [], _ :: _, _, h => h.elim
  | _ :: _, _ :: _, [], _, h => h.elim
  | [], _ :: _, _, h, _ => h.elim
  | _ :: _, [], _, h, _ => h.elim
theorem WkF.ok {S : Addr → Prop} {ρ : Nat → Nat} {w : World} {x y : F} {v : Value} (h : WkF x y) (hx : FV S ρ w x v) : FV S ρ w y v := by
  cases h with
  | refl => exact hx
  | c h => exact h.ok hx
  | agg h => obtain ⟨vs, h1, h2⟩ := hx; exact ⟨vs, h1, h.ok h2⟩
  | tup h => obtain ⟨vs, h1, h2⟩ := hx; exact ⟨vs, h1, h.ok h2⟩
theorem WkF.plain {x y : F} (h : WkF x y) (hp : Plain x) : Plain y := by
  cases h <;> first | exact hp | trivial
/-- the ways in which a body may end -/
def retK (P : Program) (rs : List ResultVar) (r : F) (vs' : List (Nat × F)) : Cont := fun x l => (x = .ret ∨ x = .normal) ∧ ∃ r0, resF P l rs = some r0 ∧ WkF r0 r ∧ sub vs' l
def keysOK (vs : List (Nat × F)) (vs' : List (Nat × F)) (r : F) : Bool :=
  (vs.all fun (k, _) => Nat.ble 1000 k) && (vs'.all fun (k, f) => Nat.ble 1000 k && (match f with | .var _ _ => (vs.any fun (j, _) => Nat.beq k j) && Nat.ble 2000 k | .own _ _ _ => true | _ => false)) && (match r with | .var _ _ | .ptr _ _ => false | _ => true)
def insOf (vs : List (Nat × F)) : List Nat := (vs.map (·.1)).filter fun k => Nat.ble 2000 k

theorem find_mem {l : List (Nat × F)} {k : Nat} {f : F} (h : find l k = some f) : (k, f) ∈ l := by
  induction l with
  | nil => cases h
  | cons x l ih =>
    obtain ⟨j, g⟩ := x
    rw [find_cons] at h
    by_cases e : j = k
    · rw [if_pos e] at h; cases h; rw [e]; exact List.mem_cons_self ..
    · rw [if_neg e] at h; exact List.mem_cons_of_mem _ (ih h)

theorem con_intro {P : Program} {f : FuncId} {fn : Func} {c : Code} {fs : List F} {vs vs' : List (Nat × F)} {r : F} (hf : P.funcs[f]? = some fn) (hb : fn.body = some c) (hn : (Nat.ble fs.length fn.ntmps && Nat.ble fn.ntmps 1000) = true) (hko : keysOK vs vs' r = true)
    (h : J P fn.ntmps (insOf vs) (ini fs vs) c (retK P fn.results.toList r vs')) : Con P f fs vs r vs' := by
  intro V ρ tv w args B hsz htv hrr htt hBv hBw
  rw [Bool.and_eq_true] at hn
  have hn1 := Nat.le_of_ble_eq_true hn.1
  have hn2 := Nat.le_of_ble_eq_true hn.2
  unfold keysOK at hko
  rw [Bool.and_eq_true, Bool.and_eq_true] at hko
  obtain ⟨⟨hk1, hk2⟩, hk3⟩ := hko
  have hres : Res r := by cases r <;> first | trivial | cases hk3
  have hvsk : ∀ k g, find vs k = some g → 1000 ≤ k := fun k g hkg => by
    rw [List.all_eq_true] at hk1
    exact Nat.le_of_ble_eq_true (hk1 _ (find_mem hkg))
  let tmps : Array Value := args ++ Array.replicate (fn.ntmps - args.size) undef
  let tv1 : Nat → Value := fun k => if k < 1000 then tmps.getD k undef else tv k
  have htmps : tmps.size = fn.ntmps := by simp [tmps]; omega
  have hkeys : ∀ k g, find (ini fs vs) k = some g → k < fs.length ∨ 1000 ≤ k := by
    intro k g hk
    unfold ini at hk
    rw [find_append, find_nums] at hk
    simp only [Nat.zero_le, if_true, Nat.sub_zero] at hk
    rcases Nat.lt_or_ge k fs.length with h1 | h1
    · exact .inl h1
    · rw [List.getElem?_eq_none h1] at hk
      exact .inr (hvsk k g hk)
  have htv1 : ∀ k g, find (ini fs vs) k = some g → tv1 k = tv k := by
    intro k g hk
    rcases hkeys k g hk with h1 | h1
    · show (if k < 1000 then _ else _) = _
      rw [if_pos (by omega), htv k (by omega)]
      simp only [tmps, Array.getD_eq_getD_getElem?]
      rw [Array.getElem?_append_left (by omega)]
    · show (if k < 1000 then _ else _) = _
      rw [if_neg (by omega)]
  have hg1 : ∀ g, 1000 ≤ g → tv1 g = tv g := fun g hg => by show (if g < 1000 then _ else _) = _; rw [if_neg (by omega)]
  have hex1 : ∀ k g, find (ini fs vs) k = some g → ex ρ tv1 k g = ex ρ tv k g := fun k g hk => by
    cases g <;> simp only [ex, htv1 k _ hk]
  have hvol1 : ∀ p, vol (find (ini fs vs)) ρ tv1 p ↔ vol (find (ini fs vs)) ρ tv p := fun p =>
    ⟨fun ⟨k, g, h1, h2, h3⟩ => ⟨k, g, h1, by rw [← hex1 k g h1]; exact h2, h3⟩, fun ⟨k, g, h1, h2, h3⟩ => ⟨k, g, h1, by rw [hex1 k g h1]; exact h2, h3⟩⟩
  have hrr1 : RR V ρ tv1 w (find (ini fs vs)) := hrr.to (Nat.le_refl _) (fun p hp => ⟨fun e => hp.2.2 ((hvol1 p).1 e), rfl⟩)
    (fun k g hk => .inl ⟨hk, hrr.same hk (htv1 k g hk) hg1 (fun _ _ _ => rfl) (fun _ _ _ => rfl) (fun _ _ => rfl)⟩)
    (fun k g k' g' b h1 h2 h3 h4 => hrr.dist k g k' g' b h1 h2 (by rw [← hex1 k g h1]; exact h3) (by rw [← hex1 k' g' h2]; exact h4)) (fun k g b h1 h2 => hrr.exb k g b h1 (by rw [← hex1 k g h1]; exact h2))
  let e : Env := { V := V, ρ0 := ρ, ins := insOf vs, w0 := w, vol0 := vol (find (ini fs vs)) ρ tv, n := fn.ntmps, B := B, tt := htt, hv := hBv, hB := hBw }
  refine calls_of_wp hf hb (h e _ rfl rfl ?_ _ _ ?_)
  · intro x l' a' w' hK hR
    obtain ⟨hx, r0, hrf, hwk, hsub⟩ := hK
    obtain ⟨hdf, hsz', hfr, ρ', tv', htv', hin, hvz, hrr'⟩ := hR
    have hsub' := sub_ok hsub
    have key0 : ∃ v, (results fn a'.tmps).run P w' = .ok v w' ∧ ((∃ t, t < 1000 ∧ find l' t = some r0 ∧ v = tv' t) ∨ (Plain r0 ∧ FV (cold V (find l') ρ' tv' w') ρ' w' r0 v)) := by
      rw [results_eq]
      have hgen : ∀ es, resEs P l' fn.results.toList = some es → ∃ vs : List Value, (fn.results.mapM (resV a'.tmps)).run P w' = .ok vs.toArray w' ∧ TIn (cold V (find l') ρ' tv' w') w' es vs ∧ vs.length = fn.results.size := by
        intro es hes
        obtain ⟨us, h1, h2, h3⟩ := resEs_ok htv' hrr' _ _ hes
        refine ⟨us, ?_, h2, by simpa using h3⟩
        rw [Array.mapM_eq_mapM_toList]
        change Sem.run P (List.mapM _ fn.results.toList >>= fun a => pure a.toArray) w' = _
        rw [Sem.run_bind, h1]
        rfl
      have hone : ∀ (x : ResultVar) (v : Value), fn.results.toList = [x] → (resV a'.tmps x).run P w' = .ok v w' →
          (do let vs ← fn.results.mapM (resV a'.tmps); pure (if h : vs.size = 1 then vs[0] else .tuple vs) : Sem Value).run P w' = .ok v w' := by
        intro x v hx hrun
        rw [Sem.run_bind, Array.mapM_eq_mapM_toList]
        change (Sem.run P (List.mapM _ fn.results.toList >>= fun a => pure a.toArray) w').andThen _ = _
        rw [hx, Sem.run_bind, List.mapM_cons, Sem.run_bind, hrun]
        rfl
      unfold resF at hrf
      split at hrf
      · rename_i t ht
        cases hb2 : Nat.blt t 1000 with
        | false => rw [hb2] at hrf; cases hrf
        | true =>
          have ht2 : t < 1000 := Nat.le_of_ble_eq_true hb2
          rw [hb2, cond_true] at hrf
          have hfl : find l' t = some r0 := by
            split at hrf
            · cases hrf
            · cases hrf
            · exact hrf
          exact ⟨tv' t, hone _ _ ht (by rw [htv' t ht2]; rfl), .inl ⟨t, ht2, hfl, rfl⟩⟩
      · rename_i x hx1 hx2
        rw [Option.map_eq_some_iff] at hrf
        obtain ⟨ee, h1, h2⟩ := hrf
        obtain ⟨v, h3, h4⟩ := resE_ok h1 htv' hrr'
        refine ⟨v, hone _ _ (by assumption) h3, .inr ?_⟩
        cases ee with
        | c d => subst h2; exact ⟨trivial, h4⟩
        | agg ds => subst h2; exact ⟨trivial, h4⟩
      · rename_i hx1 hx2
        rw [Option.map_eq_some_iff] at hrf
        obtain ⟨es, h1, h2⟩ := hrf
        obtain ⟨us, h3, h4, h5⟩ := hgen es h1
        refine ⟨.tuple us.toArray, ?_, .inr (by subst h2; exact ⟨trivial, us, rfl, h4⟩)⟩
        rw [Sem.run_bind, h3, Result.andThen_ok]
        have : ¬ us.toArray.size = 1 := by
          intro e1
          have e2 : fn.results.toList.length = 1 := by simp at e1; rw [Array.length_toList]; omega
          obtain ⟨x, hx⟩ := List.length_eq_one_iff.1 e2
          cases x with
          | tmp t => exact hx1 t hx
          | cell a t => exact hx2 _ hx
        rw [dif_neg this]
        rfl
    have key : ∃ v, (results fn a'.tmps).run P w' = .ok v w' ∧ ((∃ t, t < 1000 ∧ find l' t = some r ∧ v = tv' t) ∨ (Plain r ∧ FV (cold V (find l') ρ' tv' w') ρ' w' r v)) := by
      obtain ⟨v, h1, h2⟩ := key0
      refine ⟨v, h1, ?_⟩
      rcases h2 with ⟨t, h3, h4, h5⟩ | ⟨h3, h4⟩
      · cases hwk with
        | refl => exact .inl ⟨t, h3, h4, h5⟩
        | c hq => exact .inr ⟨trivial, h5 ▸ hq.ok (hrr'.rel t _ h4)⟩
        | agg hq => exact .inr ⟨trivial, h5 ▸ (WkF.agg hq).ok (show FV _ _ _ (.agg _) _ from hrr'.rel t _ h4)⟩
        | tup hq => exact .inr ⟨trivial, h5 ▸ (WkF.tup hq).ok (show FV _ _ _ (.tup _) _ from hrr'.rel t _ h4)⟩
      · exact .inr ⟨hwk.plain h3, hwk.ok h4⟩
    obtain ⟨v, hrun, hcase⟩ := key
    have hvs' : ∀ k g, find vs' k = some g → 1000 ≤ k ∧ (∀ T xs, g = .var T xs → k ∈ insOf vs) ∧ ∀ x o, g ≠ .ptr x o := fun k g hkg => by
      rw [List.all_eq_true] at hk2
      have := hk2 _ (find_mem hkg)
      rw [Bool.and_eq_true] at this
      refine ⟨Nat.le_of_ble_eq_true this.1, fun T xs e => ?_, fun x o e => ?_⟩
      · subst e
        have h2 := this.2
        rw [Bool.and_eq_true, List.any_eq_true] at h2
        obtain ⟨⟨⟨j, g'⟩, hm, hj⟩, hb⟩ := h2
        refine List.mem_filter.2 ⟨?_, hb⟩
        rw [Nat.eq_of_beq_eq_true hj]
        exact List.mem_map.2 ⟨_, hm, rfl⟩
      · subst e; exact Bool.noConfusion this.2
    let tv2 : Nat → Value := fun k => if k = 0 then v else tv' k
    have hres2 := hrr'.result (ρ' := ρ) (tv' := tv2) (vs' := vs') hres (fun k g hkg => ⟨hsub' k g hkg, (hvs' k g hkg).1, by
        show (if k = 0 then _ else _) = _
        rw [if_neg (by have := (hvs' k g hkg).1; omega)]⟩) (fun g hg => by show (if g = 0 then _ else _) = _; rw [if_neg (by omega)]) (fun k T xs hk => (hin k ((hvs' k _ hk).2.1 T xs rfl)).symm) (fun k x o hk => (hvs' k _ hk).2.2 x o rfl)
      (by
        rcases hcase with ⟨t, ht, hlt, hv⟩ | ⟨hp, hv⟩
        · exact .inl ⟨t, ht, hlt, by show (if 0 = 0 then v else _) = _; rw [if_pos rfl, hv]⟩
        · exact .inr ⟨hp, by show FV _ _ _ r (if 0 = 0 then v else _); rw [if_pos rfl]; exact hv⟩)
    have hpost : ∃ v, (results fn a'.tmps).run P w' = .ok v w' ∧ (fun e w' => ∃ v tv', e = Ending.returned v ∧ tv' 0 = v ∧ Fr (vol (find (ini fs vs)) ρ tv) w w' ∧ RR V ρ tv' w' (find ((0, r) :: vs')) ∧ ∀ p, vol (find ((0, r) :: vs')) ρ tv' p → vol (find (ini fs vs)) ρ tv p ∨ w.heap.size ≤ p.block) (.returned v) w' :=
      ⟨v, hrun, v, tv2, rfl, if_pos rfl, hfr, hres2.1, fun p hp => hvz p (hres2.2 p hp)⟩
    rcases hx with rfl | rfl
    · exact ⟨hdf, hpost⟩
    · exact ⟨hdf, hpost⟩
  · exact ⟨rfl, htmps, Fr.refl _ _, ρ, tv1, fun t ht => by show (if t < 1000 then _ else _) = _; rw [if_pos ht], fun _ _ => rfl, fun p hp => .inl ((hvol1 p).1 hp), hrr1⟩

end Go.Proofs.YtoadmjnaakbljaaDoor
