/- Shadows: a region in whatever order; the statements. -/
import Derived.Test.YtoadmjnaakbljaaDoorSh5
import Derived.LoopN
namespace Go.Proofs.YtoadmjnaakbljaaDoor
set_option linter.unusedVariables false
open Go Go.RowKit

theorem Does.more {P : Program} {o : Oper} {rd rd' : List Nat} {fr : List (Nat × List Nat)} {l post : List (Nat × F)} (h : Does P o rd fr l post) (hr : ∀ k, k ∈ rd → k ∈ rd') : Does P o rd' fr l post :=
  fun e σ a w next Q hn hd hσ hf hR hnext => h e σ a w next Q hn hd (fun k hk => hσ k (hr k hk)) hf hR hnext
theorem Does.cast {P : Program} {o : Oper} {rd : List Nat} {fr : List (Nat × List Nat)} {l post post' : List (Nat × F)} (h : Does P o rd fr l post) (e : post = post') : Does P o rd fr l post' := e ▸ h
theorem Does.same {P : Program} {o : Oper} {rd : List Nat} {fr : List (Nat × List Nat)} {l l' post : List (Nat × F)} (h : Does P o rd fr l post) (hl : ∀ k, k ∈ rd → find l' k = find l k) : Does P o rd fr l' post :=
  fun e σ a w next Q hn hd hσ hf hR hnext => h e σ a w next Q hn hd (fun k hk => (hσ k hk).trans (hl k hk)) hf hR hnext

/-- one step of a region: what it looks at, what it makes new, what it leaves -/
structure Stp where
  rd : List Nat
  fr : List (Nat × List Nat)
  post : List (Nat × F)

def gk (ops : Array Oper) (o : Oper) : List Nat :=
  match o.guard with
  | none => []
  | some (j, _) => match (ops[j]?).bind (·.dst) with | some t => [t] | none => []
/-- is an operation wanted? -/
def wantB (ops : Array Oper) (l : List (Nat × F)) (o : Oper) : Option Bool :=
  match o.guard with
  | none => some true
  | some (j, b) => match (ops[j]?).bind (·.dst) with
    | none => some false
    | some t => bif Nat.blt t 1000 then (match find l t with
      | some (.c (.lit (.bool c))) => some (c == b)
      | some .und => some false
      | _ => none) else none
def undPost (o : Oper) : List (Nat × F) := match o.dst with | some d => [(d, .und)] | none => []
def StepOK (P : Program) (ops : Array Oper) (o : Oper) (l : List (Nat × F)) (s : Stp) : Prop :=
  (wantB ops l o = some true ∧ ∃ rd, s.rd = gk ops o ++ rd ∧ Does P o rd s.fr l s.post) ∨ (wantB ops l o = some false ∧ s.rd = gk ops o ∧ s.fr = [] ∧ s.post = undPost o)
def Steps (P : Program) (ops : Array Oper) : Nat → List (Nat × F) → List Stp → Prop
  | i, _, [] => i = ops.size
  | i, l, s :: r => (∃ o, ops[i]? = some o ∧ StepOK P ops o l s) ∧ Steps P ops (i + 1) (s.post ++ l) r
theorem Steps.run {P : Program} {ops : Array Oper} {i : Nat} {l post : List (Nat × F)} {rd : List Nat} {fr : List (Nat × List Nat)} {r : List Stp} {o : Oper} (ho : ops[i]? = some o) (hw : wantB ops l o = some true) (hd : Does P o rd fr l post) (h : Steps P ops (i + 1) (post ++ l) r) :
    Steps P ops i l (⟨gk ops o ++ rd, fr, post⟩ :: r) := ⟨⟨o, ho, .inl ⟨hw, rd, rfl, hd⟩⟩, h⟩
theorem Steps.skip {P : Program} {ops : Array Oper} {i : Nat} {l : List (Nat × F)} {r : List Stp} {o : Oper} (ho : ops[i]? = some o) (hw : wantB ops l o = some false) (h : Steps P ops (i + 1) (undPost o ++ l) r) :
    Steps P ops i l (⟨gk ops o, [], undPost o⟩ :: r) := ⟨⟨o, ho, .inr ⟨hw, rfl, rfl, rfl⟩⟩, h⟩
theorem Steps.nil {P : Program} {ops : Array Oper} {i : Nat} {l : List (Nat × F)} (h : i = ops.size) : Steps P ops i l [] := h

theorem wanted_ok {P : Program} {ops : Array Oper} {o : Oper} {l : List (Nat × F)} {b : Bool} {e : Env} {σ : Sta} {a : Act} {w : World} (h : wantB ops l o = some b) (hσ : ∀ k, k ∈ gk ops o → σ k = find l k) (hR : R e σ a w) (hn : e.n ≤ 1000) : Region.wanted o (yielded ops a.tmps) = b := by
  obtain ⟨_, hsz, _, ρ, tv, htv, _, _, hrr⟩ := hR
  unfold wantB at h
  unfold gk at hσ
  unfold Region.wanted
  cases hg : o.guard with
  | none => rw [hg] at h; simp at h; rw [← h]
  | some jb =>
    obtain ⟨j, c⟩ := jb
    rw [hg] at h hσ
    simp only at h hσ ⊢
    unfold yielded
    cases ht : (ops[j]?).bind (·.dst) with
    | none => rw [ht] at h; cases h; rfl
    | some t =>
      rw [ht] at h hσ
      simp only [Option.bind_some] at h hσ ⊢
      cases hb : Nat.blt t 1000 with
      | false => rw [hb] at h; cases h
      | true =>
        have htl : t < 1000 := Nat.le_of_ble_eq_true hb
        rw [hb, cond_true] at h
        have hval : ∀ f, find l t = some f → FV (cold e.V σ ρ tv w) ρ w f (tv t) ∨ ∃ T xs, f = .var T xs := by
          intro f hf
          have := hrr.rel t f (by rw [hσ t (by simp)]; exact hf)
          cases f with
          | var T xs => exact .inr ⟨T, xs, rfl⟩
          | _ => exact .inl this
        have hg : a.tmps[t]? = some (tv t) ∨ (tv t = undef ∧ a.tmps[t]? = none) := by
          rw [htv t htl, Array.getD_eq_getD_getElem?]
          cases a.tmps[t]? with
          | none => exact .inr ⟨rfl, rfl⟩
          | some v => exact .inl rfl
        cases hf : find l t with
        | none => rw [hf] at h; cases h
        | some f =>
          rw [hf] at h
          rcases hval f hf with h1 | ⟨T, xs, h1⟩
          · split at h
            · rename_i c' heq
              cases heq
              have h2 := lit_val h1
              cases h
              rcases hg with hg | ⟨hg, _⟩
              · rw [hg, h2]
                cases c' <;> cases c <;> rfl
              · rw [h2] at hg; cases hg
            · rename_i heq
              cases heq
              cases h
              have h2 : tv t = undef := h1
              rcases hg with hg | ⟨_, hg⟩
              · rw [hg, h2]; simp [undef]
              · rw [hg]; simp
            · cases h
          · rw [h1] at h; cases h

theorem und_put {e : Env} {σ : Sta} {a : Act} {w : World} {o : Oper} (hR : R e σ a w) (hn : e.n ≤ 1000) (hd : ∀ d, o.dst = some d → d < e.n) : R e (upd σ (undPost o)) (a.put o.dst undef) w := by
  obtain ⟨hdf, hsz, hfr, ρ, tv, htv, hin, hvz, hrr⟩ := hR
  unfold undPost
  cases h : o.dst with
  | none => exact ⟨hdf, hsz, hfr, ρ, tv, htv, hin, hvz, hrr⟩
  | some d => exact R.put hdf hsz hfr htv hin hvz hrr (hd d h) hn (f := .und) trivial rfl
theorem step_ok {P : Program} {ops : Array Oper} {o : Oper} {l : List (Nat × F)} {s : Stp} (h : StepOK P ops o l s) {e : Env} {σ : Sta} {a : Act} {w : World} {K : Act → World → Prop} {Q : Exit → Act → World → Prop} {i : Nat} (hi : ops[i]? = some o) (hn : e.n ≤ 1000) (hd : ∀ d, o.dst = some d → d < e.n)
    (hσ : ∀ k, k ∈ s.rd → σ k = find l k) (hf : ∀ q, q ∈ s.fr → q.1 ∉ e.ins ∧ ∀ k f, k ∉ q.2 → σ k = some f → refB q.1 f = false) (hR : R e σ a w) (hnext : ∀ a' w', R e (upd σ s.post) a' w' → K a' w') : wpOp P ops Q i K a w := by
  unfold wpOp
  rw [hi]
  simp only
  rcases h with ⟨hw, rd, hrd, hdo⟩ | ⟨hw, hrd, hfr, hp⟩
  · rw [if_pos (wanted_ok (P := P) hw (fun k hk => hσ k (by rw [hrd]; exact List.mem_append_left _ hk)) hR hn)]
    exact .inl (hdo e σ a w K Q hn hd (fun k hk => hσ k (by rw [hrd]; exact List.mem_append_right _ hk)) hf hR hnext)
  · rw [if_neg (by rw [wanted_ok (P := P) hw (fun k hk => hσ k (by rw [hrd]; exact hk)) hR hn]; decide)]
    refine hnext _ _ ?_
    rw [hp]
    exact und_put hR hn hd

/-! orders -/
def dom (p : List (Nat × F)) : List Nat := p.map (·.1)
theorem upd_off {σ : Sta} {p : List (Nat × F)} {k : Nat} (h : k ∉ dom p) : upd σ p k = σ k := by
  unfold upd
  have : find p k = none := by
    induction p with
    | nil => rfl
    | cons x p ih =>
      obtain ⟨j, f⟩ := x
      simp [dom] at h
      rw [find_cons, if_neg (fun e => h.1 e.symm)]
      exact ih (by simpa [dom] using h.2)
  rw [this]
theorem upd_on {p : List (Nat × F)} {k : Nat} (h : k ∈ dom p) (σ σ' : Sta) : upd σ p k = upd σ' p k := by
  unfold upd
  have : ∃ f, find p k = some f := by
    induction p with
    | nil => simp [dom] at h
    | cons x p ih =>
      obtain ⟨j, f⟩ := x
      rw [find_cons]
      by_cases e : j = k
      · exact ⟨f, if_pos e⟩
      · rw [if_neg e]
        simp [dom] at h
        exact ih (by
          rcases h with h | h
          · exact absurd h.symm e
          · simpa [dom] using h)
  obtain ⟨f, hf⟩ := this
  rw [hf]
/-- the state when of the steps those have come up that L tells -/
def stF (σ : Sta) : Nat → List Stp → (Nat → Bool) → Sta
  | _, [], _ => σ
  | i, s :: r, L => stF (bif L i then upd σ s.post else σ) (i + 1) r L
theorem stF_at : ∀ (ss : List Stp) (i : Nat) (σ σ' : Sta) (L L' : Nat → Bool) (k : Nat), σ k = σ' k → (∀ j s, ss[j]? = some s → k ∈ dom s.post → L (i + j) = L' (i + j)) → stF σ i ss L k = stF σ' i ss L' k
  | [], _, _, _, _, _, _, h, _ => h
  | s :: ss, i, σ, σ', L, L', k, h, hw => by
    rw [stF, stF]
    refine stF_at ss (i + 1) _ _ L L' k ?_ (fun j s' hj hk => by
      have := hw (j + 1) s' (by simpa using hj) hk
      rwa [show i + (j + 1) = i + 1 + j by omega] at this)
    by_cases hk : k ∈ dom s.post
    · have := hw 0 s rfl hk
      rw [Nat.add_zero] at this
      rw [this]
      cases L' i
      · exact h
      · exact upd_on hk _ _
    · cases L i <;> cases L' i <;> simp [upd_off hk, h]
theorem stF_put : ∀ (ss : List Stp) (i : Nat) (σ : Sta) (L : Nat → Bool) (j : Nat) (s : Stp), ss[j]? = some s → (∀ m s', ss[m]? = some s' → j < m → L (i + m) = true → ∀ k, k ∈ dom s'.post → k ∉ dom s.post) →
    stF σ i ss (fun m => if m = i + j then true else L m) = upd (stF σ i ss (fun m => if m = i + j then false else L m)) s.post := by
  intro ss i σ L j s hs hlater
  funext k
  by_cases hk : k ∈ dom s.post
  · -- the last writer of k is j
    have : ∀ (ss : List Stp) (i : Nat) (σ : Sta) (j : Nat), ss[j]? = some s → (∀ m s', ss[m]? = some s' → j < m → L (i + m) = true → ∀ k, k ∈ dom s'.post → k ∉ dom s.post) →
        stF σ i ss (fun m => if m = i + j then true else L m) k = upd σ s.post k := by
      intro ss
      induction ss with
      | nil => intro i σ j h; simp at h
      | cons s0 ss ih =>
        intro i σ j hj hl
        rw [stF]
        cases j with
        | zero =>
          simp at hj
          subst hj
          simp only [Nat.add_zero, if_true, cond_true]
          have : ∀ (ss : List Stp) (n : Nat) (τ : Sta), (∀ m s', ss[m]? = some s' → (fun m => if m = i then true else L m) (n + m) = true → k ∉ dom s'.post) → stF τ n ss (fun m => if m = i then true else L m) k = τ k := by
            intro ss
            induction ss with
            | nil => intro n τ _; rfl
            | cons s1 ss ih2 =>
              intro n τ h
              rw [stF, ih2 (n + 1) _ (fun m s' hm hL => h (m + 1) s' (by simpa using hm) (by rwa [show n + (m + 1) = n + 1 + m by omega]))]
              have h0 := h 0 s1 rfl
              rw [Nat.add_zero] at h0
              cases hL : (if n = i then true else L n) with
              | false => rfl
              | true => exact upd_off (h0 hL)
          refine this ss (i + 1) _ (fun m s' hm hL hk' => hl (m + 1) s' (by simpa using hm) (by omega) ?_ k hk' hk)
          have e : (fun m => if m = i then true else L m) (i + 1 + m) = L (i + (m + 1)) := by
            show (if i + 1 + m = i then true else L (i + 1 + m)) = _
            rw [if_neg (by omega), show i + 1 + m = i + (m + 1) by omega]
          rw [← e]
          exact hL
        | succ j =>
          have := ih (i + 1) (bif (fun m => if m = i + (j + 1) then true else L m) i then upd σ s0.post else σ) j (by simpa using hj) (fun m s' hm hjm hL => hl (m + 1) s' (by simpa using hm) (by omega) (by rwa [show i + (m + 1) = i + 1 + m by omega]))
          rw [show (fun m => if m = i + 1 + j then true else L m) = (fun m => if m = i + (j + 1) then true else L m) by funext m; rw [show i + 1 + j = i + (j + 1) by omega]] at this
          rw [this]
          exact upd_on hk _ _
    rw [this ss i σ j hs hlater]
    exact upd_on hk _ _
  · rw [upd_off hk]
    refine stF_at ss i σ σ _ _ k rfl (fun m s' hm hk' => ?_)
    by_cases e : i + m = i + j
    · have : m = j := by omega
      subst this
      rw [hs] at hm
      cases hm
      exact absurd hk' hk
    · rw [if_neg e, if_neg e]

def edgesOf (o : Oper) : List Nat := (o.after.toList.filter fun e => Region.binds .any e).map (·.on)
/-- pre: what must have come up before each -/
def preOK (ops : Array Oper) (pre : List (List Nat)) : Bool :=
  (List.range ops.size).all fun j => match ops[j]?, pre[j]? with
    | some o, some p => ((edgesOf o).all fun k => Nat.blt k j) && p.all fun i => (edgesOf o).any fun k => Nat.beq i k || (pre.getD k []).any fun m => Nat.beq i m
    | _, _ => false
def apart (a b : List Nat) : Bool := a.all fun x => !(b.any fun y => Nat.beq x y)
theorem apart_ok {a b : List Nat} (h : apart a b = true) : ∀ k, k ∈ a → k ∉ b := by
  intro k ha hb
  unfold apart at h
  rw [List.all_eq_true] at h
  have := h k ha
  rw [Bool.not_eq_true', List.any_eq_false] at this
  exact this k hb (Nat.beq_refl k)
def indep1 (s t : Stp) : Bool := apart (dom s.post) t.rd && apart (dom s.post) (dom t.post) && apart (dom t.post) s.rd
def indepOK (ss : List Stp) (pre : List (List Nat)) : Bool :=
  (List.range ss.length).all fun j => (List.range j).all fun i => (match pre[j]? with | some p => p.any fun m => Nat.beq i m | none => false) || (match ss[i]?, ss[j]? with | some s, some t => indep1 s t | _, _ => false)
def freshIn (q : Nat × List Nat) (p : List (Nat × F)) : Bool := p.all fun (k, f) => (q.2.any fun y => Nat.beq k y) || !refB q.1 f
def freshOK (ins : List Nat) (l : List (Nat × F)) (ss : List Stp) (pre : List (List Nat)) : Bool :=
  (List.range ss.length).all fun j => match ss[j]? with
    | some s => s.fr.all fun q => (!ins.any fun y => Nat.beq q.1 y) && freshIn q l && (List.range ss.length).all fun i => Nat.beq i j || (match ss[i]?, pre[i]? with | some t, some p => (p.any fun m => Nat.beq j m) || freshIn q t.post | _, _ => false)
    | none => false
def dstOK (n : Nat) (ops : Array Oper) : Bool := Nat.ble n 1000 && ops.toList.all fun o => match o.dst with | some d => Nat.blt d n | none => true

theorem any_beq {i : Nat} {p : List Nat} : (p.any fun m => Nat.beq i m) = true ↔ i ∈ p := by
  rw [List.any_eq_true]
  constructor
  · rintro ⟨m, hm, h⟩; rw [Nat.eq_of_beq_eq_true h]; exact hm
  · intro h; exact ⟨i, h, Nat.beq_refl i⟩
theorem pre_in {ops : Array Oper} {pre : List (List Nat)} (h : preOK ops pre = true) (L : Nat → Prop) (hL : ∀ j o, ops[j]? = some o → L j → ∀ k, k ∈ edgesOf o → L k) : ∀ (j : Nat) (o : Oper) (p : List Nat), ops[j]? = some o → pre[j]? = some p → (∀ k, k ∈ edgesOf o → L k) → ∀ i, i ∈ p → L i := by
  intro j
  induction j using Nat.strongRecOn with
  | _ j ih =>
    intro o p ho hp hk i hi
    unfold preOK at h
    rw [List.all_eq_true] at h
    have hj : j < ops.size := by
      rcases Nat.lt_or_ge j ops.size with h1 | h1
      · exact h1
      · rw [Array.getElem?_eq_none h1] at ho; cases ho
    have h1 := h j (List.mem_range.2 hj)
    rw [ho, hp] at h1
    simp only [Bool.and_eq_true, List.all_eq_true, List.any_eq_true] at h1
    obtain ⟨h2, h3⟩ := h1
    obtain ⟨k, hkm, hik⟩ := h3 i hi
    have hkj : k < j := Nat.le_of_ble_eq_true (h2 k hkm)
    rw [Bool.or_eq_true] at hik
    rcases hik with e | e
    · rw [Nat.eq_of_beq_eq_true e]; exact hk k hkm
    · have hin := any_beq.1 e
      rw [List.getD_eq_getElem?_getD] at hin
      cases hpk : pre[k]? with
      | none => rw [hpk] at hin; simp at hin
      | some pk =>
        rw [hpk] at hin
        have hko : k < ops.size := by omega
        exact ih k hkj ops[k] pk (Array.getElem?_eq_getElem hko) hpk (hL k _ (Array.getElem?_eq_getElem hko) (hk k hkm)) i hin

theorem Steps.get {P : Program} {ops : Array Oper} : ∀ {ss : List Stp} {i : Nat} {l : List (Nat × F)}, Steps P ops i l ss → i + ss.length = ops.size ∧ ∀ j s, ss[j]? = some s → ∃ o, ops[i + j]? = some o ∧ StepOK P ops o (find l |> fun _ => ((ss.take j).foldl (fun l s => s.post ++ l) l)) s
  | [], i, l, h => ⟨h, fun j s hj => by simp at hj⟩
  | s0 :: ss, i, l, h => by
    obtain ⟨h1, h2⟩ := Steps.get h.2
    refine ⟨by rw [List.length_cons]; omega, fun j s hj => ?_⟩
    cases j with
    | zero => simp at hj; subst hj; exact h.1
    | succ j =>
      obtain ⟨o, h3, h4⟩ := h2 j s (by simpa using hj)
      exact ⟨o, by rw [← h3, show i + (j + 1) = i + 1 + j by omega], h4⟩
theorem stF_none : ∀ (ss : List Stp) (i : Nat) (σ : Sta) (L : Nat → Bool), (∀ j s, ss[j]? = some s → L (i + j) = false) → stF σ i ss L = σ
  | [], _, _, _, _ => rfl
  | s :: ss, i, σ, L, h => by
    have h0 := h 0 s rfl
    rw [Nat.add_zero] at h0
    rw [stF, h0, cond_false]
    exact stF_none ss (i + 1) σ L (fun j s' hj => by
      have := h (j + 1) s' (by simpa using hj)
      rwa [show i + (j + 1) = i + 1 + j by omega] at this)
theorem find_fold : ∀ (ss : List Stp) (i n : Nat) (l : List (Nat × F)), find ((ss.take n).foldl (fun l s => s.post ++ l) l) = stF (find l) i ss (fun m => decide (m < i + n))
  | [], _, _, _ => by simp [stF]
  | s :: ss, i, 0, l => by
    rw [stF_none (s :: ss) i (find l) _ (fun j _ _ => by simp)]
    rfl
  | s :: ss, i, n + 1, l => by
    rw [stF]
    simp only [List.take_succ_cons, List.foldl_cons]
    rw [find_fold ss (i + 1) n (s.post ++ l), ← upd_find]
    simp only [show i < i + (n + 1) by omega, decide_true, cond_true]
    rw [show i + 1 + n = i + (n + 1) by omega]

theorem region_any {P : Program} {ops : Array Oper} {l : List (Nat × F)} {ss : List Stp} {pre : List (List Nat)} {e : Env} {Q : Exit → Act → World → Prop} (hs : Steps P ops 0 l ss) (hp : preOK ops pre = true) (hi : indepOK ss pre = true) (hf : freshOK e.ins l ss pre = true) (hd : dstOK e.n ops = true)
    (hK : ∀ a w, R e (stF (find l) 0 ss (fun m => decide (m < ss.length))) a w → Q .normal a w) :
    ∀ (fuel : Nat) (listed : Array Bool) (a : Act) (w : World), listed.size = ops.size → (∀ k, k ≤ ops.size → ((List.range k).filter fun i => listed.getD i true = false).length ≤ fuel) → (∀ j o, ops[j]? = some o → listed.getD j true = true → ∀ k, k ∈ edgesOf o → listed.getD k true = true) →
      R e (stF (find l) 0 ss (fun m => listed.getD m true)) a w → wpAny P .any ops Q fuel listed a w := by
  obtain ⟨hlen, hget⟩ := hs.get
  rw [Nat.zero_add] at hlen
  have hready : ∀ (listed : Array Bool), listed.size = ops.size → ∀ i, i ∈ Region.ready .any ops listed ↔ i < ops.size ∧ listed.getD i true = false ∧ ∀ o, ops[i]? = some o → ∀ k, k ∈ edgesOf o → listed.getD k false = true := by
    intro listed hsz i
    unfold Region.ready
    rw [List.mem_filter, List.mem_range]
    constructor
    · rintro ⟨h1, h2⟩
      rw [Bool.and_eq_true] at h2
      refine ⟨h1, by simpa using h2.1, fun o ho k hk => ?_⟩
      rw [ho] at h2
      simp only [Option.map_some, Option.getD_some, Array.all_eq_true_iff_forall_mem, Bool.or_eq_true] at h2
      unfold edgesOf at hk
      obtain ⟨ed, hed, rfl⟩ := List.mem_map.1 hk
      rw [List.mem_filter] at hed
      rcases h2.2 ed (by simpa using hed.1) with h3 | h3
      · rw [hed.2] at h3; cases h3
      · exact h3
    · rintro ⟨h1, h2, h3⟩
      refine ⟨h1, ?_⟩
      rw [Bool.and_eq_true]
      refine ⟨by simp [h2], ?_⟩
      rw [Array.getElem?_eq_getElem h1]
      simp only [Option.map_some, Option.getD_some, Array.all_eq_true_iff_forall_mem, Bool.or_eq_true]
      intro ed hed
      cases hb : Region.binds .any ed with
      | false => exact .inl rfl
      | true =>
        refine .inr (h3 _ (Array.getElem?_eq_getElem h1) ed.on ?_)
        unfold edgesOf
        exact List.mem_map.2 ⟨ed, List.mem_filter.2 ⟨by simpa using hed, hb⟩, rfl⟩
  have hedge : ∀ j o, ops[j]? = some o → ∀ k, k ∈ edgesOf o → k < j := by
    intro j o ho k hk
    have hj : j < ops.size := by
      rcases Nat.lt_or_ge j ops.size with h1 | h1
      · exact h1
      · rw [Array.getElem?_eq_none h1] at ho; cases ho
    unfold preOK at hp
    rw [List.all_eq_true] at hp
    have h1 := hp j (List.mem_range.2 hj)
    rw [ho] at h1
    cases hpj : pre[j]? with
    | none => rw [hpj] at h1; cases h1
    | some p =>
      rw [hpj] at h1
      simp only [Bool.and_eq_true, List.all_eq_true] at h1
      exact Nat.le_of_ble_eq_true (h1.1 k hk)
  have hdone : ∀ (listed : Array Bool), listed.size = ops.size → Region.ready .any ops listed = [] → ∀ i, i < ops.size → listed.getD i true = true := by
    intro listed hsz hr i
    induction i using Nat.strongRecOn with
    | _ i ih =>
      intro hi
      cases hb : listed.getD i true with
      | true => rfl
      | false =>
        have : i ∈ Region.ready .any ops listed := (hready listed hsz i).2 ⟨hi, hb, fun o ho k hk => by
          have hk' := hedge i o ho k hk
          have := ih k hk' (by omega)
          rw [Array.getD_eq_getD_getElem?, Array.getElem?_eq_getElem (by omega)] at this ⊢
          exact this⟩
        rw [hr] at this
        simp at this
  have hfin : ∀ (listed : Array Bool) (a : Act) (w : World), listed.size = ops.size → Region.ready .any ops listed = [] → R e (stF (find l) 0 ss (fun m => listed.getD m true)) a w → Q .normal a w := by
    intro listed a w hsz hr hR
    refine hK a w ?_
    have : stF (find l) 0 ss (fun m => listed.getD m true) = stF (find l) 0 ss (fun m => decide (m < ss.length)) := by
      funext k
      refine stF_at ss 0 _ _ _ _ k rfl (fun j s hj _ => ?_)
      have hj' : j < ss.length := by
        rcases Nat.lt_or_ge j ss.length with h1 | h1
        · exact h1
        · rw [List.getElem?_eq_none h1] at hj; cases hj
      rw [Nat.zero_add, hdone listed hsz hr j (by omega)]
      simp [hj']
    rw [← this]
    exact hR
  intro fuel
  induction fuel with
  | zero =>
    intro listed a w hsz hcount hdc hR
    have hr : Region.ready .any ops listed = [] := by
      cases h : Region.ready .any ops listed with
      | nil => rfl
      | cons i r =>
        have := (hready listed hsz i).1 (by rw [h]; simp)
        have hc := hcount ops.size (Nat.le_refl _)
        have hm : i ∈ (List.range ops.size).filter fun i => listed.getD i true = false := List.mem_filter.2 ⟨List.mem_range.2 this.1, by simp [this.2.1]⟩
        have := List.length_pos_of_mem hm
        omega
    exact ⟨hr, hfin listed a w hsz hr hR⟩
  | succ fuel ih =>
    intro listed a w hsz hcount hdc hR
    refine ⟨fun hr => hfin listed a w hsz hr hR, fun j hj => ?_⟩
    obtain ⟨hjlt, hjn, hjpre⟩ := (hready listed hsz j).1 hj
    obtain ⟨s, hsj⟩ : ∃ s, ss[j]? = some s := ⟨ss[j]'(by omega), List.getElem?_eq_getElem (by omega)⟩
    obtain ⟨o, ho, hstep⟩ := hget j s hsj
    rw [Nat.zero_add] at ho
    have hjpre' := hjpre o ho
    have hpreT : ∀ k, k ∈ edgesOf o → listed.getD k true = true := fun k hk => by
      have := hjpre' k hk
      have hk2 := hedge j o ho k hk
      rw [Array.getD_eq_getD_getElem?, Array.getElem?_eq_getElem (by omega)] at this ⊢
      exact this
    have hpl : ∃ p, pre[j]? = some p := by
      unfold preOK at hp
      rw [List.all_eq_true] at hp
      have h1 := hp j (List.mem_range.2 hjlt)
      rw [ho] at h1
      cases hpj : pre[j]? with
      | none => rw [hpj] at h1; cases h1
      | some p => exact ⟨p, rfl⟩
    obtain ⟨p, hpj⟩ := hpl
    -- what must precede j is listed; what j precedes is not
    have hin : ∀ i, i ∈ p → listed.getD i true = true := pre_in hp (fun i => listed.getD i true = true) hdc j o p ho hpj hpreT
    have hout : ∀ i pi, pre[i]? = some pi → j ∈ pi → i < ops.size → listed.getD i true = false := by
      intro i pi hpi hji hilt
      cases hb : listed.getD i true with
      | false => rfl
      | true =>
        have := pre_in hp (fun i => listed.getD i true = true) hdc i ops[i] pi (Array.getElem?_eq_getElem hilt) hpi (hdc i _ (Array.getElem?_eq_getElem hilt) hb) j hji
        rw [hjn] at this; cases this
    have hpair : ∀ i j s t, i < j → j < ss.length → ss[i]? = some s → ss[j]? = some t → (∃ p, pre[j]? = some p ∧ i ∈ p) ∨ ((∀ k, k ∈ dom s.post → k ∉ t.rd) ∧ (∀ k, k ∈ dom s.post → k ∉ dom t.post) ∧ (∀ k, k ∈ dom t.post → k ∉ s.rd)) := by
      intro i j s t hij hj his hjt
      unfold indepOK at hi
      rw [List.all_eq_true] at hi
      have h1 := hi j (List.mem_range.2 hj)
      rw [List.all_eq_true] at h1
      have h2 := h1 i (List.mem_range.2 hij)
      rw [his, hjt, Bool.or_eq_true] at h2
      rcases h2 with h2 | h2
      · cases hpj : pre[j]? with
        | none => rw [hpj] at h2; cases h2
        | some p => rw [hpj] at h2; exact .inl ⟨p, rfl, any_beq.1 h2⟩
      · unfold indep1 at h2
        rw [Bool.and_eq_true, Bool.and_eq_true] at h2
        exact .inr ⟨apart_ok h2.1.1, apart_ok h2.1.2, apart_ok h2.2⟩
    have hslt : ∀ {m : Nat} {s' : Stp}, ss[m]? = some s' → m < ss.length := by
      intro m s' hm
      rcases Nat.lt_or_ge m ss.length with h1 | h1
      · exact h1
      · rw [List.getElem?_eq_none h1] at hm; cases hm
    have hrd : ∀ k, k ∈ s.rd → stF (find l) 0 ss (fun m => listed.getD m true) k = find ((ss.take j).foldl (fun l s => s.post ++ l) l) k := by
      intro k hk
      rw [find_fold ss 0 j l]
      refine stF_at ss 0 _ _ _ _ k rfl (fun m s' hm hkm => ?_)
      rw [Nat.zero_add]
      simp only [Nat.zero_add]
      have hml := hslt hm
      rcases Nat.lt_trichotomy m j with h1 | h1 | h1
      · rcases hpair m j s' s h1 (by omega) hm hsj with ⟨p', hp', hmp⟩ | ⟨h2, _, _⟩
        · rw [hpj] at hp'; cases hp'
          rw [hin m hmp]; simp [h1]
        · exact absurd hk (h2 k hkm)
      · subst h1; rw [hjn]; simp
      · rcases hpair j m s s' h1 hml hsj hm with ⟨p', hp', hjp⟩ | ⟨_, _, h2⟩
        · rw [hout m p' hp' hjp (by omega)]; simp; omega
        · exact absurd hk (h2 k hkm)
    unfold dstOK at hd
    rw [Bool.and_eq_true] at hd
    have hn : e.n ≤ 1000 := Nat.le_of_ble_eq_true hd.1
    refine step_ok hstep ho hn (fun d hdd => ?_) hrd (fun q hq => ?_) hR (fun a' w' hR' => ?_)
    · have h2 := hd.2
      rw [List.all_eq_true] at h2
      have h3 := h2 o (by
        have := Array.mem_of_getElem? ho
        simpa using this)
      rw [hdd] at h3
      exact Nat.le_of_ble_eq_true h3
    · unfold freshOK at hf
      rw [List.all_eq_true] at hf
      have h1 := hf j (List.mem_range.2 (by omega))
      rw [hsj] at h1
      simp only [List.all_eq_true] at h1
      have h2 := h1 q hq
      rw [Bool.and_eq_true, Bool.and_eq_true] at h2
      obtain ⟨⟨h3, h4⟩, h5⟩ := h2
      refine ⟨fun hmem => ?_, fun k f hk hkf => ?_⟩
      · rw [any_beq.2 hmem] at h3; cases h3
      · have hfr : ∀ (p : List (Nat × F)), freshIn q p = true → find p k = some f → refB q.1 f = false := by
          intro p hp hfind
          induction p with
          | nil => cases hfind
          | cons x p ih2 =>
            obtain ⟨k', f'⟩ := x
            unfold freshIn at hp
            rw [List.all_cons, Bool.and_eq_true] at hp
            rw [find_cons] at hfind
            by_cases e : k' = k
            · rw [if_pos e] at hfind; cases hfind
              have := hp.1
              simp only [Bool.or_eq_true] at this
              rcases this with h6 | h6
              · exact absurd (by rw [← e]; exact any_beq.1 h6) hk
              · simpa using h6
            · rw [if_neg e] at hfind
              exact ih2 (by unfold freshIn; exact hp.2) hfind
        rw [List.all_eq_true] at h5
        -- the fact stands in l or in a step that has come up
        have : ∀ (ss' : List Stp) (i : Nat) (σ : Sta), (∀ m s', ss'[m]? = some s' → ss[i + m]? = some s') → (σ k = some f → refB q.1 f = false) → stF σ i ss' (fun m => listed.getD m true) k = some f → refB q.1 f = false := by
          intro ss'
          induction ss' with
          | nil => intro i σ _ h0 h; exact h0 h
          | cons s1 ss' ih2 =>
            intro i σ hsub h0 h
            rw [stF] at h
            refine ih2 (i + 1) _ (fun m s' hm => by rw [show i + 1 + m = i + (m + 1) by omega]; exact hsub (m + 1) s' (by simpa using hm)) ?_ h
            have hi1 := hsub 0 s1 rfl
            rw [Nat.add_zero] at hi1
            cases hb : listed.getD i true with
            | false => exact h0
            | true =>
              rw [cond_true]
              intro hu
              unfold upd at hu
              cases hfp : find s1.post k with
              | none => rw [hfp] at hu; exact h0 hu
              | some f' =>
                rw [hfp] at hu
                cases hu
                have h6 := h5 i (List.mem_range.2 (hslt hi1))
                rw [Bool.or_eq_true] at h6
                rcases h6 with h6 | h6
                · have := Nat.eq_of_beq_eq_true h6
                  subst this
                  rw [hjn] at hb; cases hb
                · rw [hi1] at h6
                  cases hpi : pre[i]? with
                  | none => rw [hpi] at h6; cases h6
                  | some pi =>
                    rw [hpi] at h6
                    simp only [Bool.or_eq_true] at h6
                    rcases h6 with h6 | h6
                    · have := hout i pi hpi (any_beq.1 h6) (by have := hslt hi1; omega)
                      rw [hb] at this; cases this
                    · exact hfr _ h6 hfp
        exact this ss 0 (find l) (fun m s' hm => by rw [Nat.zero_add]; exact hm) (fun h => hfr l h4 h) hkf
    · have hset : ∀ i, (listed.setIfInBounds j true).getD i true = if i = j then true else listed.getD i true := by
        intro i
        simp only [Array.getD_eq_getD_getElem?, Array.getElem?_setIfInBounds]
        by_cases e : j = i
        · subst e; simp [hsz, hjlt]
        · rw [if_neg e, if_neg (fun e2 => e e2.symm)]
      refine ih _ a' w' (by simp [hsz]) (fun k hk => ?_) (fun m om hom hm k hk => ?_) ?_
      · -- one fewer is left
        have hc := hcount ops.size (Nat.le_refl _)
        have hsub : ((List.range k).filter fun i => (listed.setIfInBounds j true).getD i true = false).length + 1 ≤ ((List.range ops.size).filter fun i => listed.getD i true = false).length := by
          have e1 : ((List.range k).filter fun i => (listed.setIfInBounds j true).getD i true = false).length ≤ ((List.range ops.size).filter fun i => (listed.setIfInBounds j true).getD i true = false).length :=
            ((List.range_sublist.2 hk).filter _).length_le
          have e2 : ∀ (L : List Nat), L.Nodup → j ∈ L → (L.filter fun i => (listed.setIfInBounds j true).getD i true = false).length + 1 = (L.filter fun i => listed.getD i true = false).length := by
            intro L
            induction L with
            | nil => intro _ h; simp at h
            | cons x L ih3 =>
              intro hnd hjL
              rw [List.nodup_cons] at hnd
              rw [List.filter_cons, List.filter_cons, hset x]
              by_cases ex : x = j
              · subst ex
                simp only [if_true, hjn]
                have : (L.filter fun i => (listed.setIfInBounds x true).getD i true = false) = L.filter fun i => listed.getD i true = false := by
                  refine List.filter_congr (fun i hi => ?_)
                  rw [hset i, if_neg (fun e2 => hnd.1 (by rw [← e2]; exact hi))]
                rw [this]
                simp only [Bool.true_eq_false, decide_false, Bool.false_eq_true, if_false, decide_true, if_true, List.length_cons]
              · rw [if_neg ex]
                have := ih3 hnd.2 (by
                  rcases List.mem_cons.1 hjL with h | h
                  · exact absurd h.symm ex
                  · exact h)
                by_cases hb : listed.getD x true = false
                · simp only [hb, decide_true, if_true, List.length_cons]; omega
                · simp [hb]; simpa using this
          have := e2 (List.range ops.size) List.nodup_range (List.mem_range.2 hjlt)
          omega
        omega
      · rw [hset k]
        by_cases ek : k = j
        · rw [if_pos ek]
        · rw [if_neg ek]
          rw [hset m] at hm
          by_cases em : m = j
          · subst em
            rw [ho] at hom; cases hom
            exact hpreT k hk
          · rw [if_neg em] at hm
            exact hdc m om hom hm k hk
      · have e1 := stF_put ss 0 (find l) (fun m => listed.getD m true) j s hsj (fun m s' hm hjm hL k hk hks => by
          rw [Nat.zero_add] at hL
          rcases hpair j m s s' hjm (hslt hm) hsj hm with ⟨p', hp', hjp⟩ | ⟨_, h2, _⟩
          · have := hout m p' hp' hjp (by have := hslt hm; omega)
            rw [hL] at this; cases this
          · exact h2 k hks hk)
        rw [Nat.zero_add] at e1
        have e2 : (fun m => if m = j then false else listed.getD m true) = fun m => listed.getD m true := by
          funext m
          by_cases e : m = j
          · rw [if_pos e, e, hjn]
          · rw [if_neg e]
        have e3 : (fun m => (listed.setIfInBounds j true).getD m true) = fun m => if m = j then true else listed.getD m true := by
          funext m; exact hset m
        rw [e2] at e1
        rw [e3, e1]
        exact hR'

end Go.Proofs.YtoadmjnaakbljaaDoor
