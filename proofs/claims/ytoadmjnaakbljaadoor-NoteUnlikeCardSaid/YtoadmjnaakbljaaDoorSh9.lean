/- Shadows: a call. -/
import Derived.Test.YtoadmjnaakbljaaDoorSh8
namespace Go.Proofs.YtoadmjnaakbljaaDoor
set_option linter.unusedVariables false
open Go Go.RowKit

def argsF (l : List (Nat × F)) : List Operand → Option (List F)
  | [] => some []
  | x :: r => match opd l x, argsF l r with
    | some (.var _ _), _ => none
    | some f, some fs => some (f :: fs)
    | _, _ => none
theorem argsF_get {l : List (Nat × F)} : ∀ {xs : List Operand} {fs : List F}, argsF l xs = some fs → fs.length = xs.length ∧ ∀ (i : Nat) (f : F), fs[i]? = some f → ∃ x, xs[i]? = some x ∧ opd l x = some f ∧ ∀ T ys, f ≠ .var T ys
  | [], fs, h => by cases h; exact ⟨rfl, fun i f h => by simp at h⟩
  | x :: r, fs, h => by
    rw [argsF] at h
    split at h
    · cases h
    · rename_i f gs hnv h1 h2
      cases h
      obtain ⟨h3, h4⟩ := argsF_get h2
      refine ⟨by simp [h3], fun i g hg => ?_⟩
      cases i with
      | zero => simp at hg; subst hg; exact ⟨x, rfl, h1, fun T ys e => hnv T ys e⟩
      | succ i =>
        obtain ⟨y, h5, h6⟩ := h4 i g (by simpa using hg)
        exact ⟨y, by simpa using h5, h6⟩
    · cases h
def isOwn : F → Bool
  | .own _ _ _ => true
  | _ => false
def ownKeys (l : List (Nat × F)) (xs : List Operand) : List Nat := xs.filterMap fun
  | .tmp t => (match find l t with | some (.own _ _ _) => some t | _ => none)
  | _ => none
def oneOwn (fs : List F) : Bool := (List.range fs.length).all fun i => (List.range fs.length).all fun j => Nat.beq i j || !(match fs[i]?, fs[j]? with | some f, some g => isOwn f && isOwn g | _, _ => false)
def callOK (P : Program) (f : FuncId) : Bool := match P.funcs[f]? with
  | some fn => !(fn.name == "runtime.NumGoroutine") && fn.body.isSome
  | none => false
/-- the ghosts that cells of what comes back name come back, too -/
def ghostsOK (vs' : List (Nat × F)) : Bool := vs'.all fun (_, f) => match f with | .var _ xs => xs.all (fun | .gh g => vs'.any (fun (j, _) => Nat.beq g j) | _ => true) | _ => true
def frCall (vs vs' : List (Nat × F)) : List (Nat × List Nat) := (vs'.filter fun x => Nat.blt x.1 2000).map fun x => (x.1, vs.map (·.1))
def postCall (l : List (Nat × F)) (d : Nat) (r : F) (xs : List Operand) (vs vs' : List (Nat × F)) : List (Nat × F) := (d, r) :: (vs' ++ (ownKeys l xs ++ vs.map (·.1)).map fun k => (k, .non))

theorem run_call {P : Program} {o : Oper} {f : FuncId} {args : Array Operand} {ts : Array TypeId} (ho : o.op = .call { callee := .value (.func f), args := args, argTypes := ts }) (hc : callOK P f = true) (a : Act) (w : World) :
    (execOp a.eval o).run P w = .ok (.enter f (args.map a.eval)) w := by
  unfold callOK at hc
  cases hf : P.funcs[f]? with
  | none => rw [hf] at hc; cases hc
  | some fn =>
    rw [hf] at hc
    simp only [Bool.and_eq_true, Bool.not_eq_true'] at hc
    have hb : fn.body.isNone = false := by
      cases h : fn.body with
      | none => rw [h] at hc; exact absurd hc.2 (by decide)
      | some c => rfl
    simp only [execOp, ho, resolve, Act.eval, Deferred.ofValue, Sem.run_bind, Sem.run_pure, Result.andThen_ok, invoke, callFunc, Array.empty_append, Array.append_empty]
    have hp : (program).run P w = .ok P w := rfl
    simp only [hp, Result.andThen_ok, hf, hc.1, hb, Bool.false_eq_true, if_false, Sem.run_pure]

theorem find_append_none {l r : List (Nat × F)} {k : Nat} {f : F} (h : find (l ++ r) k = some f) : find l k = some f ∨ (find l k = none ∧ find r k = some f) := by
  rw [find_append] at h
  cases hl : find l k with
  | none => rw [hl] at h; exact .inr ⟨rfl, h⟩
  | some g => rw [hl] at h; exact .inl h
theorem find_nons {ks : List Nat} {k : Nat} {f : F} (h : find (ks.map fun k => (k, F.non)) k = some f) : k ∈ ks ∧ f = .non := by
  have := find_mem h
  obtain ⟨j, h1, h2⟩ := List.mem_map.1 this
  cases h2
  exact ⟨h1, rfl⟩
theorem find_nons_none {ks : List Nat} {k : Nat} (h : find (ks.map fun k => (k, F.non)) k = none) : k ∉ ks := by
  intro hm
  induction ks with
  | nil => simp at hm
  | cons j ks ih =>
    rw [List.map_cons, find_cons] at h
    by_cases e : j = k
    · rw [if_pos e] at h; cases h
    · rw [if_neg e] at h
      rcases List.mem_cons.1 hm with h1 | h1
      · exact e h1.symm
      · exact ih h h1

theorem r_call {P : Program} {o : Oper} {l : List (Nat × F)} {d : Nat} {f : FuncId} {args : Array Operand} {ts : Array TypeId} {fs : List F} {vs vs' : List (Nat × F)} {r : F} (hC : Con P f fs vs r vs') (ho : o.op = .call { callee := .value (.func f), args := args, argTypes := ts }) (hd : o.dst = some d)
    (ha : argsF l args.toList = some fs) (hvs : sub vs l) (hck : (callOK P f && keysOK vs vs' r && oneOwn fs && ghostsOK vs' && Nat.ble fs.length 1000) = true) :
    Does P o (args.toList.flatMap rdOf ++ vs.map (·.1)) (frCall vs vs') l (postCall l d r args.toList vs vs') := by
  simp only [Bool.and_eq_true] at hck
  obtain ⟨⟨⟨⟨hc, hko⟩, hone⟩, hgh⟩, hlen1000⟩ := hck
  have hl1000 := Nat.le_of_ble_eq_true hlen1000
  unfold keysOK at hko
  rw [Bool.and_eq_true, Bool.and_eq_true] at hko
  obtain ⟨⟨hk1, hk2⟩, hk3⟩ := hko
  have hvs0 := sub_ok hvs
  have hvsk : ∀ k, k ∈ vs.map (·.1) → 1000 ≤ k := fun k hk => by
    obtain ⟨⟨j, g⟩, h1, rfl⟩ := List.mem_map.1 hk
    rw [List.all_eq_true] at hk1
    exact Nat.le_of_ble_eq_true (hk1 _ h1)
  have hvsk' : ∀ k g, find vs' k = some g → 1000 ≤ k := fun k g hkg => by
    rw [List.all_eq_true] at hk2
    have := hk2 _ (find_mem hkg)
    rw [Bool.and_eq_true] at this
    exact Nat.le_of_ble_eq_true this.1
  obtain ⟨hlen, hget⟩ := argsF_get ha
  have hmemv : ∀ k g, find vs k = some g → k ∈ vs.map (·.1) := fun k g h => List.mem_map.2 ⟨_, find_mem h, rfl⟩
  have hownk : ∀ t, t ∈ ownKeys l args.toList → t < 1000 ∨ True := fun _ _ => .inr trivial
  intro e σ a w next Q hn hdn hσ hfresh hR hnext
  obtain ⟨hdf, hsz, hfr, ρ, tv, htv, hin, hvz, hrr⟩ := hR
  have hdlt : d < 1000 := Nat.lt_of_lt_of_le (hdn d hd) hn
  have hview := view_of hσ htv hrr
  -- an argument that is owned is a temporary
  have hown : ∀ (i : Nat) (T : TypeId) (sz : Nat) (els : List (List D)), fs[i]? = some (.own T sz els) → ∃ t, t < 1000 ∧ args.toList[i]? = some (.tmp t) ∧ t ∈ ownKeys l args.toList ∧ σ t = some (.own T sz els) := by
    intro i T sz els hi
    obtain ⟨x, hx, hox, _⟩ := hget i _ hi
    cases x with
    | tmp t =>
      simp only [opd] at hox
      cases hb : Nat.blt t 1000 with
      | false => rw [hb] at hox; cases hox
      | true =>
        rw [hb, cond_true] at hox
        have ht : t < 1000 := Nat.le_of_ble_eq_true hb
        have hmem := List.mem_of_getElem? hx
        refine ⟨t, ht, hx, List.mem_filterMap.2 ⟨_, hmem, by simp only [hox]⟩, ?_⟩
        rw [hσ t (List.mem_append_left _ (List.mem_flatMap.2 ⟨_, hmem, by simp [rdOf]⟩))]
        exact hox
    | const v =>
      simp only [opd, cst] at hox
      cases v <;> first | (cases hox; done) | (simp only at hox; cases hox; done) | skip
      rename_i cs
      cases hb : cs.all (·.oneCell') <;> simp [hb] at hox
    | global g => cases hox
    | func g => cases hox
  have hownlt : ∀ t, t ∈ ownKeys l args.toList → t < 1000 ∧ σ t = find l t ∧ ∃ T sz els, find l t = some (.own T sz els) := by
    intro t ht
    obtain ⟨x, hx, hxt⟩ := List.mem_filterMap.1 ht
    cases x with
    | tmp t' =>
      simp only at hxt
      cases hf : find l t' with
      | none => rw [hf] at hxt; cases hxt
      | some g =>
        rw [hf] at hxt
        cases g with
        | own T sz els =>
          cases hxt
          obtain ⟨i, hi, hie⟩ := List.getElem_of_mem hx
          have hfi : ∃ g, fs[i]? = some g := ⟨fs[i]'(by omega), List.getElem?_eq_getElem (by omega)⟩
          obtain ⟨g, hg⟩ := hfi
          obtain ⟨y, hy, hoy, _⟩ := hget i g hg
          rw [List.getElem?_eq_getElem hi, hie] at hy
          cases hy
          have ht1 : t < 1000 := by
            simp only [opd] at hoy
            cases hb : Nat.blt t 1000 with
            | false => rw [hb] at hoy; cases hoy
            | true => exact Nat.le_of_ble_eq_true hb
          exact ⟨ht1, hσ t (List.mem_append_left _ (List.mem_flatMap.2 ⟨_, hx, by simp [rdOf]⟩)), T, sz, els, hf⟩
        | _ => cases hxt
    | _ => cases hxt
  have hσvs : ∀ k g, find vs k = some g → σ k = some g := fun k g hk => by
    rw [hσ k (List.mem_append_right _ (hmemv k g hk))]
    exact hvs0 k g hk
  let vals : Array Value := args.map a.eval
  let tvc : Nat → Value := fun k => if k < 1000 then vals.getD k undef else tv k
  let σr : Sta := fun k => if k ∈ vs.map (·.1) ∨ k ∈ ownKeys l args.toList then none else σ k
  let V' : Addr → Prop := fun p => e.V p ∨ vol σr ρ tv p
  have hσr : ∀ k g, σr k = some g → σ k = some g ∧ k ∉ vs.map (·.1) ∧ k ∉ ownKeys l args.toList := by
    intro k g h
    have h' : (if k ∈ vs.map (·.1) ∨ k ∈ ownKeys l args.toList then none else σ k) = some g := h
    by_cases hc : k ∈ vs.map (·.1) ∨ k ∈ ownKeys l args.toList
    · rw [if_pos hc] at h'; cases h'
    · rw [if_neg hc] at h'; exact ⟨h', fun e => hc (.inl e), fun e => hc (.inr e)⟩
  have hvolr : ∀ p, vol σr ρ tv p → vol σ ρ tv p := fun p ⟨k, g, h1, h2, h3⟩ => ⟨k, g, (hσr k g h1).1, h2, h3⟩
  have hvalsz : vals.size = fs.length := by simp [vals, hlen]
  have hval : ∀ (i : Nat) (x : Operand), args.toList[i]? = some x → tvc i = a.eval x := by
    intro i x hx
    have hi : i < args.toList.length := by
      rcases Nat.lt_or_ge i args.toList.length with h | h
      · exact h
      · rw [List.getElem?_eq_none h] at hx; cases hx
    show (if i < 1000 then _ else _) = _
    rw [if_pos (by omega)]
    simp only [vals, Array.getD_eq_getD_getElem?, Array.getElem?_map]
    rw [← Array.getElem?_toList, hx]
    rfl
  have hini : ∀ k g, find (ini fs vs) k = some g → (k < fs.length ∧ fs[k]? = some g) ∨ (find vs k = some g ∧ 1000 ≤ k) := by
    intro k g hk
    unfold ini at hk
    rcases find_append_none hk with h | ⟨_, h⟩
    · rw [find_nums] at h
      simp only [Nat.zero_le, if_true, Nat.sub_zero] at h
      refine .inl ⟨?_, h⟩
      rcases Nat.lt_or_ge k fs.length with h1 | h1
      · exact h1
      · rw [List.getElem?_eq_none h1] at h; cases h
    · exact .inr ⟨h, hvsk k (hmemv k g h)⟩
  have hexc : ∀ k g b, find (ini fs vs) k = some g → ex ρ tvc k g = some b → ∃ k0, σ k0 = some g ∧ ex ρ tv k0 g = some b ∧ ((k < fs.length ∧ k0 < 1000 ∧ k0 ∈ ownKeys l args.toList ∧ isOwn g = true) ∨ (1000 ≤ k ∧ k0 = k ∧ k ∈ vs.map (·.1))) := by
    intro k g b hk hb
    rcases hini k g hk with ⟨h1, h2⟩ | ⟨h1, h2⟩
    · cases g with
      | own T sz els =>
        obtain ⟨t, ht, hx, hm, hs⟩ := hown k T sz els h2
        refine ⟨t, hs, ?_, .inl ⟨h1, ht, hm, rfl⟩⟩
        simp only [ex] at hb ⊢
        rw [hval k _ hx] at hb
        rw [show tv t = a.eval (.tmp t) from htv t ht]
        exact hb
      | var T xs =>
        obtain ⟨_, _, _, h3⟩ := hget k _ h2
        exact absurd rfl (h3 T xs)
      | _ => cases hb
    · refine ⟨k, hσvs k g h1, ?_, .inr ⟨h2, rfl, hmemv k g h1⟩⟩
      have : tvc k = tv k := by show (if k < 1000 then _ else _) = _; rw [if_neg (by omega)]
      cases g <;> simp only [ex, this] at hb ⊢ <;> exact hb
  have hvolc : ∀ p, vol (find (ini fs vs)) ρ tvc p → vol σ ρ tv p := by
    rintro p ⟨k, g, h1, h2, h3⟩
    obtain ⟨k0, h4, h5, _⟩ := hexc k g _ h1 h2
    exact ⟨k0, g, h4, h5, h3⟩
  have hcold0 : ∀ p, cold e.V σ ρ tv w p → cold V' (find (ini fs vs)) ρ tvc w p := fun p hp =>
    ⟨hp.1, fun h => h.elim hp.2.1 (fun h => hp.2.2 (hvolr p h)), fun h => hp.2.2 (hvolc p h)⟩
  have hgc : ∀ g, 1000 ≤ g → tvc g = tv g := fun g hg => by show (if g < 1000 then _ else _) = _; rw [if_neg (by omega)]
  have hrr0 : RR V' ρ tvc w (find (ini fs vs)) := by
    refine ⟨fun p hp => ?_, fun k g hk => ?_, fun k g k' g' b h1 h2 h3 h4 => ?_, fun k g b h1 h2 => ?_⟩
    · rcases hp with hp | ⟨k, g, h1, h2, _⟩
      · exact hrr.vb p hp
      · exact (hrr.exb k g _ (hσr k g h1).1 h2).1
    · rcases hini k g hk with ⟨h1, h2⟩ | ⟨h1, h2⟩
      · obtain ⟨x, hx, hox, hnv⟩ := hget k g h2
        have hmem := List.mem_of_getElem? hx
        have hfv := hview.fv hox (fun j hj => List.mem_append_left _ (List.mem_flatMap.2 ⟨_, hmem, hj⟩)) hnv
        refine KV.fv ?_
        rw [hval k x hx]
        exact FV.mono (ρ := ρ) (w := w) hcold0 (fun _ _ => rfl) (fun _ _ _ => rfl) (fun _ _ _ _ _ _ => rfl) hfv
      · have hs := hσvs k g h1
        exact (hrr.rel k g hs).mono hcold0 (fun _ _ => rfl) (hrr.same hs (hgc k h2) hgc (fun _ _ _ => rfl) (fun _ _ _ => rfl) (fun _ _ => rfl))
    · obtain ⟨k0, a1, a2, a3⟩ := hexc _ _ _ h1 h3
      obtain ⟨k0', b1, b2, b3⟩ := hexc _ _ _ h2 h4
      have heq := hrr.dist _ _ _ _ _ a1 b1 a2 b2
      rcases a3 with ⟨a3, a4, a5, a6⟩ | ⟨a3, a4, a5⟩ <;> rcases b3 with ⟨b3, b4, b5, b6⟩ | ⟨b3, b4, b5⟩
      · unfold oneOwn at hone
        rw [List.all_eq_true] at hone
        have h5 := hone k (List.mem_range.2 a3)
        rw [List.all_eq_true] at h5
        have h6 := h5 k' (List.mem_range.2 b3)
        rcases hini k g h1 with ⟨_, c1⟩ | ⟨_, c1⟩
        · rcases hini k' g' h2 with ⟨_, c2⟩ | ⟨_, c2⟩
          · rw [c1, c2] at h6
            simp only [a6, b6, Bool.and_self, Bool.not_true, Bool.or_false] at h6
            exact Nat.eq_of_beq_eq_true h6
          · omega
        · omega
      · omega
      · omega
      · omega
    · obtain ⟨k0, a1, a2, a3⟩ := hexc _ _ _ h1 h2
      obtain ⟨b1, b2⟩ := hrr.exb _ _ _ a1 a2
      refine ⟨b1, fun p hp hV => ?_⟩
      rcases hV with hV | ⟨k1, g1, c1, c2, _⟩
      · exact b2 p hp hV
      · obtain ⟨d1, d2, d3⟩ := hσr k1 g1 c1
        have heq := hrr.dist _ _ _ _ _ a1 d1 a2 (by rw [← hp]; exact c2)
        rcases a3 with ⟨_, _, a5, _⟩ | ⟨_, a4, a5⟩
        · exact d3 (heq ▸ a5)
        · exact d2 (by rw [← heq, a4]; exact a5)
  unfold Oper.wp
  rw [run_call ho hc, Oper.upon_enter]
  have hbel : Below e.B e.w0 w := hfr.belowB e.hv e.hB
  refine (hC V' ρ tvc w vals e.B hvalsz (fun i hi => ?_) hrr0 (e.tt.below hbel) (fun p hp => ?_) (Nat.le_trans e.hB hfr.size)).mono ?_
  · show (if i < 1000 then _ else _) = _
    rw [if_pos (by omega)]
  · rcases hvz p (hvolc p hp) with h | h
    · exact e.hv p h
    · have := e.hB; omega
  rintro e' w' ⟨v, tv', rfl, hv0, hFr, hrr', hvz'⟩
  show next (a.put o.dst v) w'
  rw [hd]
  have hres' : ∀ k g, find ((0, r) :: vs') k = some g → (k = 0 ∧ g = r) ∨ (1000 ≤ k ∧ find vs' k = some g) := by
    intro k g hk
    rw [find_cons] at hk
    by_cases e0 : 0 = k
    · rw [if_pos e0] at hk; cases hk; exact .inl ⟨e0.symm, rfl⟩
    · rw [if_neg e0] at hk; exact .inr ⟨hvsk' k g hk, hk⟩
  let tvn : Nat → Value := fun k => if k = d then v else if (find vs' k).isSome = true then tv' k else tv k
  have hnew : ∀ k g, upd σ (postCall l d r args.toList vs vs') k = some g → (k = d ∧ g = r) ∨ (k ≠ d ∧ find vs' k = some g) ∨ g = .non ∨ (k ≠ d ∧ find vs' k = none ∧ σr k = some g) := by
    intro k g hk
    unfold upd postCall at hk
    cases hp : find ((d, r) :: (vs' ++ (ownKeys l args.toList ++ vs.map (·.1)).map fun k => (k, .non))) k with
    | some g' =>
      rw [hp] at hk
      cases hk
      rw [find_cons] at hp
      by_cases e0 : d = k
      · rw [if_pos e0] at hp; cases hp; exact .inl ⟨e0.symm, rfl⟩
      · rw [if_neg e0] at hp
        rcases find_append_none hp with h | ⟨_, h⟩
        · exact .inr (.inl ⟨fun e => e0 e.symm, h⟩)
        · exact .inr (.inr (.inl (find_nons h).2))
    | none =>
      rw [hp] at hk
      rw [find_cons] at hp
      by_cases e0 : d = k
      · rw [if_pos e0] at hp; cases hp
      · rw [if_neg e0, find_append] at hp
        cases hv : find vs' k with
        | some g' => rw [hv] at hp; cases hp
        | none =>
          rw [hv] at hp
          have hnm := find_nons_none hp
          refine .inr (.inr (.inr ⟨fun e => e0 e.symm, rfl, ?_⟩))
          show (if k ∈ vs.map (·.1) ∨ k ∈ ownKeys l args.toList then none else σ k) = some g
          rw [if_neg (fun h => hnm (h.elim (List.mem_append_right _) (List.mem_append_left _)))]
          exact hk
  have hex' : ∀ k g b, upd σ (postCall l d r args.toList vs vs') k = some g → ex ρ tvn k g = some b → (∃ k0, find ((0, r) :: vs') k0 = some g ∧ ex ρ tv' k0 g = some b ∧ ((k = d ∧ k0 = 0) ∨ (k ≠ d ∧ k0 = k ∧ 1000 ≤ k))) ∨ (σr k = some g ∧ ex ρ tv k g = some b ∧ k ≠ d ∧ find vs' k = none) := by
    intro k g b hk hb
    rcases hnew k g hk with ⟨rfl, rfl⟩ | ⟨h1, h2⟩ | rfl | ⟨h1, h2, h3⟩
    · refine .inl ⟨0, by rw [find_cons, if_pos rfl], ?_, .inl ⟨rfl, rfl⟩⟩
      have e1 : tvn k = v := if_pos rfl
      cases g <;> simp only [ex, e1, hv0] at hb ⊢ <;> first | exact hb | cases hk3
    · have h4 := hvsk' k g h2
      refine .inl ⟨k, by rw [find_cons, if_neg (by omega)]; exact h2, ?_, .inr ⟨h1, rfl, h4⟩⟩
      have e1 : tvn k = tv' k := by show (if k = d then _ else _) = _; rw [if_neg h1, h2]; rfl
      cases g <;> simp only [ex, e1] at hb ⊢ <;> exact hb
    · cases hb
    · refine .inr ⟨h3, ?_, h1, h2⟩
      have e1 : tvn k = tv k := by show (if k = d then _ else _) = _; rw [if_neg h1, h2]; rfl
      cases g <;> simp only [ex, e1] at hb ⊢ <;> exact hb
  have hvoln : ∀ p, vol (upd σ (postCall l d r args.toList vs vs')) ρ tvn p → vol (find ((0, r) :: vs')) ρ tv' p ∨ vol σr ρ tv p := by
    rintro p ⟨k, g, h1, h2, h3⟩
    rcases hex' k g _ h1 h2 with ⟨k0, h4, h5, _⟩ | ⟨h4, h5, _⟩
    · exact .inl ⟨k0, g, h4, h5, h3⟩
    · exact .inr ⟨k, g, h4, h5, h3⟩
  have hC1 : ∀ p, cold e.V σ ρ tv w p → cold e.V (upd σ (postCall l d r args.toList vs vs')) ρ tvn w' p := fun p hp =>
    ⟨Nat.lt_of_lt_of_le hp.1 hFr.size, hp.2.1, fun h => by
      rcases hvoln p h with h1 | h1
      · rcases hvz' p h1 with h2 | h2
        · exact hp.2.2 (hvolc p h2)
        · have := hp.1; omega
      · exact hp.2.2 (hvolr p h1)⟩
  have hC2 : ∀ p, cold V' (find ((0, r) :: vs')) ρ tv' w' p → cold e.V (upd σ (postCall l d r args.toList vs vs')) ρ tvn w' p := fun p hp =>
    ⟨hp.1, fun h => hp.2.1 (.inl h), fun h => (hvoln p h).elim hp.2.2 (fun h => hp.2.1 (.inr h))⟩
  have hcell : ∀ p, cold e.V σ ρ tv w p → w'.cell? p = w.cell? p := fun p hp => hFr.cell p hp.1 (fun h => hp.2.2 (hvolc p h))
  have hghost : ∀ k g, σr k = some g → ∀ T xs, g = .var T xs → ∀ h, C.gh h ∈ xs → tvn h = tv h := by
    intro k g hk T xs hg h hh
    obtain ⟨h1, h2, h3⟩ := hσr k g hk
    subst hg
    obtain ⟨us, _, hcin⟩ := hrr.rel k _ h1
    have h1000 := (hcin.ghosts h hh).1
    have h2000 := (hcin.ghosts h hh).2
    show (if h = d then _ else _) = _
    rw [if_neg (by omega)]
    cases hfv : find vs' h with
    | none => rfl
    | some g' =>
      exfalso
      have hm := find_mem hfv
      have hlt : Nat.blt h 2000 = true := Nat.ble_eq_true_of_le h2000
      have hf0 : refB h (.var T xs) = false := (hfresh (h, vs.map (·.1)) (List.mem_map.2 ⟨_, List.mem_filter.2 ⟨hm, hlt⟩, rfl⟩)).2 k _ h2 h1
      have h4 : refB h (.var T xs) = true := List.any_eq_true.2 ⟨_, hh, Nat.beq_refl h⟩
      rw [h4] at hf0
      cases hf0
  have hrrn : RR e.V ρ tvn w' (upd σ (postCall l d r args.toList vs vs')) := by
    refine ⟨fun p hp => Nat.lt_of_lt_of_le (hrr.vb p hp) hFr.size, fun k g hk => ?_, fun k g k' g' b h1 h2 h3 h4 => ?_, fun k g b h1 h2 => ?_⟩
    · rcases hnew k g hk with ⟨rfl, rfl⟩ | ⟨h1, h2⟩ | rfl | ⟨h1, h2, h3⟩
      · have h4 := hrr'.rel 0 g (by rw [find_cons, if_pos rfl])
        have h5 : FV (cold V' (find ((0, g) :: vs')) ρ tv' w') ρ w' g v := by
          rw [← hv0]
          cases g <;> first | exact h4 | cases hk3
        refine KV.fv ?_
        rw [show tvn k = v from if_pos rfl]
        exact FV.mono (ρ := ρ) (w := w') hC2 (fun _ _ => rfl) (fun _ _ _ => rfl) (fun _ _ _ _ _ _ => rfl) h5
      · have h3 := hvsk' k g h2
        have e1 : tvn k = tv' k := by show (if k = d then _ else _) = _; rw [if_neg h1, h2]; rfl
        refine (hrr'.rel k g (by rw [find_cons, if_neg (by omega)]; exact h2)).mono hC2 (fun _ _ => rfl) ?_
        cases g with
        | var T xs =>
          refine ⟨rfl, rfl, fun q hq => ?_⟩
          unfold ghostsOK at hgh
          rw [List.all_eq_true] at hgh
          have h4 := hgh _ (find_mem h2)
          simp only [List.all_eq_true] at h4
          have h5 := h4 _ hq
          simp only [List.any_eq_true] at h5
          obtain ⟨⟨j, f'⟩, h6, h7⟩ := h5
          have h8 : q = j := Nat.eq_of_beq_eq_true h7
          have h9 : ∃ f'', find vs' q = some f'' := by
            cases hfq : find vs' q with
            | some f'' => exact ⟨f'', rfl⟩
            | none =>
              exfalso
              have : ∀ (L : List (Nat × F)), (j, f') ∈ L → find L j ≠ none := by
                intro L
                induction L with
                | nil => intro hm; simp at hm
                | cons x L ih =>
                  intro hm
                  obtain ⟨i, g⟩ := x
                  rw [find_cons]
                  by_cases ei : i = j
                  · rw [if_pos ei]; simp
                  · rw [if_neg ei]
                    rcases List.mem_cons.1 hm with h | h
                    · cases h; exact absurd rfl ei
                    · exact ih h
              exact this vs' h6 (by rw [← h8]; exact hfq)
          obtain ⟨f'', h9⟩ := h9
          have hq1 := hvsk' q f'' h9
          show (if q = d then _ else _) = _
          rw [if_neg (by omega), h9]
          rfl
        | own T sz els => exact ⟨e1, fun _ _ => rfl⟩
        | ptr x o' => exact ⟨e1, rfl⟩
        | _ => exact e1
      · trivial
      · obtain ⟨c1, c2, c3⟩ := hσr k g h3
        have e1 : tvn k = tv k := by show (if k = d then _ else _) = _; rw [if_neg h1, h2]; rfl
        have hblk : ∀ b, ex ρ tv k g = some b → w'.heap[b]? = w.heap[b]? := fun b hb => by
          refine hFr.block b (hrr.exb k g b c1 hb).1 (fun p hp hvp => ?_)
          obtain ⟨k1, g1, q1, q2, _⟩ := hvp
          obtain ⟨k0, q4, q5, q6⟩ := hexc k1 g1 _ q1 q2
          have heq := hrr.dist _ _ _ _ _ c1 q4 hb (by rw [← hp]; exact q5)
          rcases q6 with ⟨_, _, q7, _⟩ | ⟨_, q7, q8⟩
          · exact c3 (heq ▸ q7)
          · exact c2 (by rw [heq, q7]; exact q8)
        refine (hrr.rel k g c1).mono hC1 hcell ?_
        cases g with
        | var T xs => exact ⟨rfl, hblk _ rfl, hghost k _ h3 T xs rfl⟩
        | own T sz els => exact ⟨e1, fun b hb => hblk b hb⟩
        | ptr x o' => exact ⟨e1, rfl⟩
        | _ => exact e1
    · rcases hex' _ _ _ h1 h3 with ⟨k0, a1, a2, a3⟩ | ⟨a1, a2, a3, a4⟩ <;> rcases hex' _ _ _ h2 h4 with ⟨k0', b1, b2, b3⟩ | ⟨b1, b2, b3, b4⟩
      · have heq := hrr'.dist _ _ _ _ _ a1 b1 a2 b2
        rcases a3 with ⟨a3, a4⟩ | ⟨a3, a4, a5⟩ <;> rcases b3 with ⟨b3, b4⟩ | ⟨b3, b4, b5⟩ <;> omega
      · have h5 := (hrr'.exb _ _ _ a1 a2).2 ⟨b, lo g', none⟩ rfl
        exact absurd (.inr ⟨k', g', b1, b2, Nat.le_refl _⟩) h5
      · have h5 := (hrr'.exb _ _ _ b1 b2).2 ⟨b, lo g, none⟩ rfl
        exact absurd (.inr ⟨k, g, a1, a2, Nat.le_refl _⟩) h5
      · exact hrr.dist _ _ _ _ _ (hσr _ _ a1).1 (hσr _ _ b1).1 a2 b2
    · rcases hex' _ _ _ h1 h2 with ⟨k0, a1, a2, a3⟩ | ⟨a1, a2, a3, a4⟩
      · have := hrr'.exb _ _ _ a1 a2
        exact ⟨this.1, fun p hp hV => this.2 p hp (.inl hV)⟩
      · have := hrr.exb _ _ _ (hσr _ _ a1).1 a2
        exact ⟨Nat.lt_of_lt_of_le this.1 hFr.size, this.2⟩
  refine hnext _ _ ⟨by rw [put_defers]; exact hdf, by rw [put_size]; exact hsz, hfr.trans hFr (fun p hp hvp => ?_), ρ, tvn, fun t ht => ?_, hin, fun p hp => ?_, hrrn⟩
  · rcases hvz p (hvolc p hvp) with h | h
    · exact h
    · omega
  · rw [put_getD _ _ _ (by rw [hsz]; exact hdn d hd)]
    show (if t = d then _ else _) = _
    by_cases et : t = d
    · rw [if_pos et, if_pos et]
    · rw [if_neg et, if_neg et]
      have : find vs' t = none := by
        cases hft : find vs' t with
        | none => rfl
        | some g => have := hvsk' t g hft; omega
      rw [this]
      exact htv t ht
  · rcases hvoln p hp with h | h
    · rcases hvz' p h with h1 | h1
      · exact hvz p (hvolc p h1)
      · have := hfr.size; exact .inr (by omega)
    · exact hvz p (hvolr p h)

end Go.Proofs.YtoadmjnaakbljaaDoor
