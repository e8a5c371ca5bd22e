/- Shadows: the statements. -/
import Derived.Test.YtoadmjnaakbljaaDoorSh6
namespace Go.Proofs.YtoadmjnaakbljaaDoor
set_option linter.unusedVariables false
open Go Go.RowKit

theorem R.grow {e : Env} {σ : Sta} {a : Act} {w w' : World} (h : R e σ a w) (hb : Below w.heap.size w w') : R e σ a w' := by
  obtain ⟨hdf, hsz, hfr, ρ, tv, htv, hin, hvz, hrr⟩ := h
  exact ⟨hdf, hsz, hfr.grow hb, ρ, tv, htv, hin, hvz, hrr.grow hb⟩
theorem R.drew {e : Env} {σ : Sta} {a : Act} {w : World} (h : R e σ a w) : R e σ a w.drew := h.grow (Below.refl _ _).drew

def Sub (l' l : List (Nat × F)) : Prop := ∀ k f, find l' k = some f → find l k = some f
/-- as it is shown: each entry -/
def sub : List (Nat × F) → List (Nat × F) → Prop
  | [], _ => True
  | (k, f) :: r, l => find l k = some f ∧ sub r l
theorem sub_ok : ∀ {l' l : List (Nat × F)}, sub l' l → Sub l' l
  | [], _, _ => fun k f h => by cases h
  | (j, g) :: r, l, h => fun k f hf => by
    rw [find_cons] at hf
    by_cases e : j = k
    · rw [if_pos e] at hf; cases hf; rw [← e]; exact h.1
    · rw [if_neg e] at hf; exact sub_ok h.2 k f hf
theorem RR.weak {V : Addr → Prop} {ρ : Nat → Nat} {tv : Nat → Value} {w : World} {σ σ' : Sta} (h : RR V ρ tv w σ) (hs : ∀ k f, σ' k = some f → σ k = some f) : RR V ρ tv w σ' ∧ ∀ p, vol σ' ρ tv p → vol σ ρ tv p := by
  have hvol : ∀ p, vol σ' ρ tv p → vol σ ρ tv p := fun p ⟨k, f, h1, h2, h3⟩ => ⟨k, f, hs k f h1, h2, h3⟩
  exact ⟨h.to (Nat.le_refl _) (fun p hp => ⟨fun e => hp.2.2 (hvol p e), rfl⟩)
    (fun k f hf => .inl ⟨hs k f hf, h.same (hs k f hf) rfl (fun _ _ => rfl) (fun _ _ _ => rfl) (fun _ _ _ => rfl) (fun _ _ => rfl)⟩)
    (fun k f k' f' b h1 h2 h3 h4 => h.dist k f k' f' b (hs _ _ h1) (hs _ _ h2) h3 h4) (fun k f b h1 h2 => h.exb k f b (hs _ _ h1) h2), hvol⟩
theorem R.weak {e : Env} {σ σ' : Sta} {a : Act} {w : World} (h : R e σ a w) (hs : ∀ k f, σ' k = some f → σ k = some f) : R e σ' a w := by
  obtain ⟨hdf, hsz, hfr, ρ, tv, htv, hin, hvz, hrr⟩ := h
  obtain ⟨h1, h2⟩ := hrr.weak hs
  exact ⟨hdf, hsz, hfr, ρ, tv, htv, hin, fun p hp => hvz p (h2 p hp), h1⟩

abbrev Cont := Exit → List (Nat × F) → Prop
/-- from every run in state l the code comes to K -/
def J (P : Program) (n : Nat) (ins : List Nat) (l : List (Nat × F)) (c : Code) (K : Cont) : Prop :=
  ∀ (e : Env) (Q : Exit → Act → World → Prop), e.n = n → e.ins = ins → (∀ x l' a w, K x l' → R e (find l') a w → Q x a w) → ∀ a w, R e (find l) a w → c.wp P Q a w

section
variable {P : Program} {n : Nat} {ins : List Nat} {l : List (Nat × F)} {K : Cont}
theorem J_weak {c : Code} (l' : List (Nat × F)) (h : sub l' l) (hJ : J P n ins l' c K) : J P n ins l c K :=
  fun e Q h1 h2 hK a w hR => hJ e Q h1 h2 hK a w (hR.weak (sub_ok h))
theorem J_skip (h : K .normal l) : J P n ins l .skip K := fun e Q _ _ hK a w hR => wp_skip (hK _ _ _ _ h hR)
theorem J_label {i : Nat} (h : K .normal l) : J P n ins l (.label i) K := fun e Q _ _ hK a w hR => wp_label (hK _ _ _ _ h hR)
theorem J_exit {i : Nat} (h : K (.exit i) l) : J P n ins l (.exit i) K := fun e Q _ _ hK a w hR => wp_exit (hK _ _ _ _ h hR)
theorem J_ret (h : K .ret l) : J P n ins l .ret K := fun e Q _ _ hK a w hR => wp_ret (hK _ _ _ _ h hR)
def seqK (P : Program) (n : Nat) (ins : List Nat) (y : Code) (K : Cont) : Cont
  | .normal, l => J P n ins l y K
  | x, l => K x l
theorem J_seq {x y : Code} (h : J P n ins l x (seqK P n ins y K)) : J P n ins l (.seq x y) K := fun e Q h1 h2 hK a w hR =>
  wp_seq (h e _ h1 h2 (fun z l' a w hz hR' => by
    cases z with
    | normal => exact hz e Q h1 h2 hK a w hR'
    | exit i => exact hK _ _ _ _ hz hR'
    | goto i => exact hK _ _ _ _ hz hR'
    | ret => exact hK _ _ _ _ hz hR'
    | panic i => exact hK _ _ _ _ hz hR'
    | outgrown => exact hK _ _ _ _ hz hR') a w hR)
def blkK (i : Nat) (K : Cont) : Cont
  | .exit j, l => bif Nat.beq j i then K .normal l else K (.exit j) l
  | x, l => K x l
theorem J_block {i : Nat} {x : Code} (h : J P n ins l x (blkK i K)) : J P n ins l (.block i x) K := fun e Q h1 h2 hK a w hR =>
  wp_block (h e _ h1 h2 (fun z l' a w hz hR' => by
    cases z with
    | exit j =>
      show if j = i then _ else _
      by_cases hj : j = i
      · rw [if_pos hj]
        rw [blkK, hj, Nat.beq_refl, cond_true] at hz
        exact hK _ _ _ _ hz hR'
      · rw [if_neg hj]
        have : Nat.beq j i = false := by
          cases hb : Nat.beq j i with
          | false => rfl
          | true => exact absurd (Nat.eq_of_beq_eq_true hb) hj
        rw [blkK, this, cond_false] at hz
        exact hK _ _ _ _ hz hR'
    | normal => exact hK _ _ _ _ hz hR'
    | goto i => exact hK _ _ _ _ hz hR'
    | ret => exact hK _ _ _ _ hz hR'
    | panic i => exact hK _ _ _ _ hz hR'
    | outgrown => exact hK _ _ _ _ hz hR') a w hR)
theorem eval_bool {e : Env} {a : Act} {w : World} {c : Operand} {b : Bool} (hc : opd l c = some (.c (.lit (.bool b)))) (hR : R e (find l) a w) : a.eval c = .bool b := by
  obtain ⟨_, _, _, ρ, tv, htv, _, _, hrr⟩ := hR
  exact lit_val ((view_of (rd := rdOf c) (l := l) (fun _ _ => rfl) htv hrr).fv hc (fun _ h => h) (by intro T xs e; cases e))
theorem J_cond {c : Operand} {x y : Code} {b : Bool} (hc : opd l c = some (.c (.lit (.bool b)))) (h1 : b = true → J P n ins l x K) (h2 : b = false → J P n ins l y K) : J P n ins l (.cond c x y) K := fun e Q g1 g2 hK a w hR => by
  refine wp_cond_split (eval_bool hc hR) (fun hb => h1 hb e Q g1 g2 hK a w hR) (fun hb => h2 hb e Q g1 g2 hK a w hR)
theorem J_condT {c : Operand} {x y : Code} (hc : opd l c = some (.c (.lit (.bool true)))) (h : J P n ins l x K) : J P n ins l (.cond c x y) K := J_cond hc (fun _ => h) (fun e => by cases e)
theorem J_condF {c : Operand} {x y : Code} (hc : opd l c = some (.c (.lit (.bool false)))) (h : J P n ins l y K) : J P n ins l (.cond c x y) K := J_cond hc (fun e => by cases e) (fun _ => h)
def loopK {α : Type} (I : α → List (Nat × F)) (μ : α → Nat) (x : α) (K : Cont) : Cont
  | .normal, l => ∃ y, μ y < μ x ∧ sub (I y) l
  | z, l => K z l
theorem J_loop {α : Type} (I : α → List (Nat × F)) (μ : α → Nat) (x : α) {c : Code} (h0 : sub (I x) l) (h : ∀ x, J P n ins (I x) c (loopK I μ x K)) : J P n ins l (.loop c) K := fun e Q h1 h2 hK a w hR => by
  have key : ∀ m x, μ x ≤ m → ∀ a w, R e (find (I x)) a w → Code.rounds P c Q (m + 1) a w := by
    intro m
    induction m with
    | zero =>
      intro x hx a w hR
      rw [rounds_succ]
      exact h x e _ h1 h2 (fun z l' a w hz hR' => by
        cases z with
        | normal => obtain ⟨y, hy, _⟩ := hz; omega
        | exit i => exact hK _ _ _ _ hz hR'
        | goto i => exact hK _ _ _ _ hz hR'
        | ret => exact hK _ _ _ _ hz hR'
        | panic i => exact hK _ _ _ _ hz hR'
        | outgrown => exact hK _ _ _ _ hz hR') a w hR
    | succ m ih =>
      intro x hx a w hR
      rw [rounds_succ]
      exact h x e _ h1 h2 (fun z l' a w hz hR' => by
        cases z with
        | normal =>
          obtain ⟨y, hy, hs⟩ := hz
          exact ih y (by omega) a w (hR'.weak (sub_ok hs))
        | exit i => exact hK _ _ _ _ hz hR'
        | goto i => exact hK _ _ _ _ hz hR'
        | ret => exact hK _ _ _ _ hz hR'
        | panic i => exact hK _ _ _ _ hz hR'
        | outgrown => exact hK _ _ _ _ hz hR') a w hR
  exact wp_loop_rounds _ (key _ x (Nat.le_refl _) a w (hR.weak (sub_ok h0)))

def exitK (K : Cont) : Cont
  | .normal, _ => False
  | z, l => K z l
/-- a loop whose first round leaves it -/
theorem J_loopExit {c : Code} (h : J P n ins l c (exitK K)) : J P n ins l (.loop c) K := fun e Q h1 h2 hK a w hR => by
  refine wp_loop_rounds 1 ?_
  rw [rounds_succ]
  exact h e _ h1 h2 (fun z l' a w hz hR' => by
    cases z with
    | normal => exact hz.elim
    | exit i => exact hK _ _ _ _ hz hR'
    | goto i => exact hK _ _ _ _ hz hR'
    | ret => exact hK _ _ _ _ hz hR'
    | panic i => exact hK _ _ _ _ hz hR'
    | outgrown => exact hK _ _ _ _ hz hR') a w hR

/-! regions -/
def after (l : List (Nat × F)) : List Stp → List (Nat × F)
  | [] => l
  | s :: r => after (s.post ++ l) r
theorem after_fold : ∀ (ss : List Stp) (l : List (Nat × F)), after l ss = ss.foldl (fun l s => s.post ++ l) l
  | [], _ => rfl
  | s :: r, l => after_fold r (s.post ++ l)
def freshSeq (ins : List Nat) : List (Nat × F) → List Stp → Bool
  | _, [] => true
  | l, s :: r => (s.fr.all fun q => (!ins.any fun y => Nat.beq q.1 y) && freshIn q l) && freshSeq ins (s.post ++ l) r
theorem freshIn_ok {q : Nat × List Nat} : ∀ {p : List (Nat × F)}, freshIn q p = true → ∀ k f, k ∉ q.2 → find p k = some f → refB q.1 f = false
  | [], _, k, f, _, h => by cases h
  | (k', f') :: p, hp, k, f, hk, hfind => by
    unfold freshIn at hp
    rw [List.all_cons, Bool.and_eq_true] at hp
    rw [find_cons] at hfind
    by_cases e : k' = k
    · rw [if_pos e] at hfind; cases hfind
      have := hp.1
      simp only [Bool.or_eq_true] at this
      rcases this with h6 | h6
      · exact absurd (by rw [← e]; exact any_beq.1 h6) hk
      · simpa using h6
    · rw [if_neg e] at hfind
      exact freshIn_ok (p := p) hp.2 k f hk hfind
theorem region_seq {ops : Array Oper} {e : Env} {Q : Exit → Act → World → Prop} (hd : dstOK e.n ops = true) : ∀ (ss : List Stp) (i : Nat) (l : List (Nat × F)), Steps P ops i l ss → freshSeq e.ins l ss = true → (∀ a w, R e (find (after l ss)) a w → Q .normal a w) →
    ∀ a w, R e (find l) a w → wpOps P ops Q (List.range' i ss.length) a w
  | [], i, l, hs, hf, hK, a, w, hR => hK a w hR
  | s :: r, i, l, hs, hf, hK, a, w, hR => by
    obtain ⟨⟨o, ho, hstep⟩, hr⟩ := hs
    rw [freshSeq, Bool.and_eq_true] at hf
    unfold dstOK at hd
    have hd' := hd
    rw [Bool.and_eq_true] at hd
    rw [List.length_cons, List.range'_succ, wpOps_cons]
    refine step_ok hstep ho (Nat.le_of_ble_eq_true hd.1) (fun d hdd => ?_) (fun _ _ => rfl) (fun q hq => ?_) hR (fun a' w' hR' => ?_)
    · have h2 := hd.2
      rw [List.all_eq_true] at h2
      have h3 := h2 o (by
        have := Array.mem_of_getElem? ho
        simpa using this)
      rw [hdd] at h3
      exact Nat.le_of_ble_eq_true h3
    · have h1 := hf.1
      rw [List.all_eq_true] at h1
      have h2 := h1 q hq
      rw [Bool.and_eq_true] at h2
      refine ⟨fun hm => ?_, freshIn_ok h2.2⟩
      rw [any_beq.2 hm] at h2
      exact absurd h2.1 (by decide)
    · rw [upd_find] at hR'
      exact region_seq hd' r (i + 1) (s.post ++ l) hr hf.2 hK a' w' hR'
def regOK (n : Nat) (ins : List Nat) (l : List (Nat × F)) (ops : Array Oper) (ss : List Stp) (pre : List (List Nat)) (draw : Bool) : Bool :=
  dstOK n ops && bif draw then preOK ops pre && indepOK ss pre && freshOK ins l ss pre else freshSeq ins l ss
theorem J_region {id : Nat} {ops : Array Oper} {draw : Bool} {ss : List Stp} (pre : List (List Nat)) (hm : P.follows .mixedOrders = true) (hs : Steps P ops 0 l ss) (hok : regOK n ins l ops ss pre draw = true) (h : K .normal (after l ss)) : J P n ins l (.region id ops draw) K := by
  intro e Q h1 h2 hK a w hR
  subst h1 h2
  have hlen : ss.length = ops.size := by have := hs.get.1; omega
  unfold regOK at hok
  rw [Bool.and_eq_true] at hok
  have hfin : ∀ a w, R e (find (after l ss)) a w → Q .normal a w := fun a w hR => hK _ _ _ _ h hR
  cases draw with
  | false =>
    refine wp_region ?_
    rw [List.range_eq_range', ← hlen]
    exact region_seq hok.1 ss 0 l hs hok.2 hfin a w hR
  | true =>
    have h3 := hok.2
    rw [cond_true, Bool.and_eq_true, Bool.and_eq_true] at h3
    refine wp_region_any hm ?_
    refine region_any hs h3.1.1 h3.1.2 h3.2 hok.1 (fun a w hR => hfin a w ?_) ops.size _ a _ (by simp) (fun k hk => ?_) (fun j o ho hj => ?_) ?_
    · have := find_fold ss 0 ss.length l
      rw [Nat.zero_add, List.take_length] at this
      rw [after_fold, this]
      exact hR
    · exact Nat.le_trans (List.length_filter_le _ _) (by rw [List.length_range]; exact hk)
    · have hjl : j < ops.size := by
        rcases Nat.lt_or_ge j ops.size with h1 | h1
        · exact h1
        · rw [Array.getElem?_eq_none h1] at ho; cases ho
      simp [Array.getD_eq_getD_getElem?, hjl] at hj
    · rw [stF_none ss 0 (find l) _ (fun j s hj => ?_)]
      · exact hR.drew
      · have : j < ss.length := by
          rcases Nat.lt_or_ge j ss.length with h1 | h1
          · exact h1
          · rw [List.getElem?_eq_none h1] at hj; cases hj
        have hj2 : j < ops.size := by omega
        simp [Array.getD_eq_getD_getElem?, hj2]
/-- a region under way: what has come up, last first -/
def JR (P : Program) (n : Nat) (ins : List Nat) (l0 : List (Nat × F)) (id : Nat) (ops : Array Oper) (draw : Bool) (K : Cont) (i : Nat) (l : List (Nat × F)) (acc : List Stp) : Prop :=
  (∀ rest, Steps P ops i l rest → Steps P ops 0 l0 (acc.reverse ++ rest)) → after l0 acc.reverse = l → J P n ins l0 (.region id ops draw) K
theorem JR.start {id : Nat} {ops : Array Oper} {draw : Bool} (h : JR P n ins l id ops draw K 0 l []) : J P n ins l (.region id ops draw) K := h (fun _ h => h) rfl
theorem after_append : ∀ (ss ts : List Stp) (l : List (Nat × F)), after l (ss ++ ts) = after (after l ss) ts
  | [], _, _ => rfl
  | s :: ss, ts, l => after_append ss ts (s.post ++ l)
theorem JR.run {l0 : List (Nat × F)} {id : Nat} {ops : Array Oper} {draw : Bool} {i : Nat} {acc : List Stp} {post : List (Nat × F)} {rd : List Nat} {fr : List (Nat × List Nat)} {o : Oper} (ho : ops[i]? = some o) (hw : wantB ops l o = some true) (hd : Does P o rd fr l post)
    (h : JR P n ins l0 id ops draw K (i + 1) (post ++ l) (⟨gk ops o ++ rd, fr, post⟩ :: acc)) : JR P n ins l0 id ops draw K i l acc := fun hs ha =>
  h (fun rest hr => by
    rw [List.reverse_cons, List.append_assoc]
    exact hs _ (Steps.run ho hw hd hr)) (by rw [List.reverse_cons, after_append, ha]; rfl)
theorem JR.skip {l0 : List (Nat × F)} {id : Nat} {ops : Array Oper} {draw : Bool} {i : Nat} {acc : List Stp} {o : Oper} (ho : ops[i]? = some o) (hw : wantB ops l o = some false)
    (h : JR P n ins l0 id ops draw K (i + 1) (undPost o ++ l) (⟨gk ops o, [], undPost o⟩ :: acc)) : JR P n ins l0 id ops draw K i l acc := fun hs ha =>
  h (fun rest hr => by
    rw [List.reverse_cons, List.append_assoc]
    exact hs _ (Steps.skip ho hw hr)) (by rw [List.reverse_cons, after_append, ha]; rfl)
theorem JR.done {l0 : List (Nat × F)} {id : Nat} {ops : Array Oper} {draw : Bool} {i : Nat} {acc : List Stp} (pre : List (List Nat)) (hm : P.follows .mixedOrders = true) (hi : i = ops.size) (hok : regOK n ins l0 ops acc.reverse pre draw = true) (h : K .normal l) :
    JR P n ins l0 id ops draw K i l acc := fun hs ha => by
  have h1 := hs [] hi
  rw [List.append_nil] at h1
  exact J_region pre hm h1 hok (by rw [ha]; exact h)
end

end Go.Proofs.YtoadmjnaakbljaaDoor
