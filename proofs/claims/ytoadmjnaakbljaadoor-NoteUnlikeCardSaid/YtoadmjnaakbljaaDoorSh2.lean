/- Shadows: the state of a run, and what puts, new variables, stores and new rows do to it. -/
import Derived.Test.YtoadmjnaakbljaaDoorSh1
import Derived.Test.YtoadmjnaakbljaaDoorTab
namespace Go.Proofs.YtoadmjnaakbljaaDoor
set_option linter.unusedVariables false
open Go Go.RowKit

def find : List (Nat × F) → Sta
  | [], _ => none
  | (k, f) :: r, n => bif Nat.beq k n then some f else find r n
theorem find_cons (k : Nat) (f : F) (r : List (Nat × F)) (n : Nat) : find ((k, f) :: r) n = if k = n then some f else find r n := by
  rw [find]
  by_cases h : k = n
  · rw [if_pos h, h, Nat.beq_refl]; rfl
  · rw [if_neg h]
    have : Nat.beq k n = false := by
      cases hb : Nat.beq k n with
      | false => rfl
      | true => exact absurd (Nat.eq_of_beq_eq_true hb) h
    rw [this]; rfl
theorem find_append (l r : List (Nat × F)) (n : Nat) : find (l ++ r) n = match find l n with | some f => some f | none => find r n := by
  induction l with
  | nil => rfl
  | cons x l ih =>
    obtain ⟨k, f⟩ := x
    rw [List.cons_append, find_cons, find_cons]
    by_cases h : k = n
    · rw [if_pos h, if_pos h]
    · rw [if_neg h, if_neg h, ih]
def upd (σ : Sta) (post : List (Nat × F)) : Sta := fun k => match find post k with | some f => some f | none => σ k
theorem upd_find (l post : List (Nat × F)) : upd (find l) post = find (post ++ l) := by
  funext k; rw [find_append]; rfl
theorem upd_nil (σ : Sta) : upd σ [] = σ := rfl
theorem upd_one (σ : Sta) (k : Nat) (f : F) (n : Nat) : upd σ [(k, f)] n = if n = k then some f else σ n := by
  unfold upd
  rw [find_cons]
  by_cases h : k = n
  · rw [if_pos h, if_pos h.symm]
  · rw [if_neg h, if_neg (fun e => h e.symm)]; rfl

structure Env where
  V : Addr → Prop
  ρ0 : Nat → Nat
  ins : List Nat
  w0 : World
  vol0 : Addr → Prop
  n : Nat
  B : Nat
  tt : TT B w0
  hv : ∀ p, vol0 p → B ≤ p.block
  hB : B ≤ w0.heap.size
/-- of what was there when the call began, nothing has turned but what it may write -/
structure Fr (vol0 : Addr → Prop) (w0 w : World) : Prop where
  os : w.os = w0.os
  tape : w.tape = w0.tape
  output : w.output = w0.output
  size : w0.heap.size ≤ w.heap.size
  cell : ∀ p : Addr, p.block < w0.heap.size → ¬ vol0 p → w.cell? p = w0.cell? p
  block : ∀ k, k < w0.heap.size → (∀ p : Addr, p.block = k → ¬ vol0 p) → w.heap[k]? = w0.heap[k]?
theorem Fr.refl (vol0 : Addr → Prop) (w : World) : Fr vol0 w w := ⟨rfl, rfl, rfl, Nat.le_refl _, fun _ _ _ => rfl, fun _ _ _ => rfl⟩
theorem Fr.trans {v0 v1 : Addr → Prop} {a b c : World} (h : Fr v0 a b) (k : Fr v1 b c) (hv : ∀ p : Addr, p.block < a.heap.size → v1 p → v0 p) : Fr v0 a c :=
  ⟨k.os.trans h.os, k.tape.trans h.tape, k.output.trans h.output, Nat.le_trans h.size k.size,
   fun p hp hn => (k.cell p (Nat.lt_of_lt_of_le hp h.size) (fun e => hn (hv p hp e))).trans (h.cell p hp hn),
   fun i hi hn => (k.block i (Nat.lt_of_lt_of_le hi h.size) (fun p hp e => hn p hp (hv p (by omega) e))).trans (h.block i hi hn)⟩
theorem Fr.below {v0 : Addr → Prop} {w w' : World} (h : Fr v0 w w') (hv : ∀ p : Addr, p.block < w.heap.size → ¬ v0 p) : Below w.heap.size w w' :=
  ⟨h.os, h.tape, h.output, h.size, fun k hk => h.block k hk (fun p _ => hv p (by omega))⟩
theorem Fr.of_below {v0 : Addr → Prop} {w w' : World} (h : Below w.heap.size w w') : Fr v0 w w' :=
  ⟨h.os, h.tape, h.output, h.size, fun p hp _ => h.cell hp, fun k hk _ => h.block k hk⟩

theorem Fr.belowB {v0 : Addr → Prop} {w w' : World} {B : Nat} (h : Fr v0 w w') (hv : ∀ p, v0 p → B ≤ p.block) (hB : B ≤ w.heap.size) : Below B w w' :=
  ⟨h.os, h.tape, h.output, h.size, fun k hk => h.block k (by omega) (fun p hp hv' => by have := hv p hv'; omega)⟩
structure R (e : Env) (σ : Sta) (a : Act) (w : World) : Prop where
  defers : a.defers = []
  size : a.tmps.size = e.n
  fr : Fr e.vol0 e.w0 w
  st : ∃ ρ tv, (∀ t, t < 1000 → tv t = a.tmps.getD t undef) ∧ (∀ x, x ∈ e.ins → ρ x = e.ρ0 x) ∧ (∀ p, vol σ ρ tv p → e.vol0 p ∨ e.w0.heap.size ≤ p.block) ∧ RR e.V ρ tv w σ

theorem CIn.ghosts {S : Addr → Prop} {w : World} {tv : Nat → Value} : ∀ {ds : List C} {vs : List Value}, CIn S w tv ds vs → ∀ g, C.gh g ∈ ds → 1000 ≤ g ∧ g < 2000
  | [], [], _, _, h => by simp at h
  | .d _ :: _, _ :: _, h, g, hg => CIn.ghosts h.2 g (by simpa using hg)
  | .gh g' :: _, _ :: _, h, g, hg => by
    rcases List.mem_cons.1 hg with h1 | h1
    · cases h1; exact h.1.2.1
    · exact CIn.ghosts h.2 g h1
  | [], _ :: _, h, _, _ => h.elim
  | .d _ :: _, [], h, _, _ => h.elim
  | .gh _ :: _, [], h, _, _ => h.elim

/-- temporaries below 1000 may turn, blocks of the keys stand -/
theorem RR.same {V : Addr → Prop} {ρ ρ' : Nat → Nat} {tv tv' : Nat → Value} {w w' : World} {σ : Sta} (h : RR V ρ tv w σ) {k : Nat} {f : F} (hf : σ k = some f) (ht : tv' k = tv k) (hg : ∀ g, 1000 ≤ g → tv' g = tv g)
    (hρ : ∀ T xs, f = .var T xs → ρ' k = ρ k) (hp : ∀ x o, f = .ptr x o → ρ' x = ρ x) (hb : ∀ b, ex ρ tv k f = some b → w'.heap[b]? = w.heap[b]?) : Same ρ ρ' tv tv' w w' k f := by
  cases f with
  | var T xs =>
    obtain ⟨vs, _, h2⟩ := h.rel k _ hf
    exact ⟨hρ T xs rfl, hb _ rfl, fun g hm => hg g (h2.ghosts g hm).1⟩
  | ptr x o => exact ⟨ht, hp x o rfl⟩
  | own T sz els => exact ⟨ht, fun b hb' => hb b hb'⟩
  | c d => exact ht
  | agg d => exact ht
  | tup d => exact ht
  | el d o => exact ht
  | und => exact ht
  | non => exact ht

def setv (tv : Nat → Value) (d : Nat) (v : Value) : Nat → Value := fun t => if t = d then v else tv t
theorem setv_same (tv : Nat → Value) (d : Nat) (v : Value) : setv tv d v d = v := if_pos rfl
theorem setv_other (tv : Nat → Value) (d : Nat) (v : Value) {t : Nat} (h : t ≠ d) : setv tv d v t = tv t := if_neg h
def Plain : F → Prop
  | .own _ _ _ | .var _ _ => False
  | _ => True
theorem Plain.ex {f : F} (h : Plain f) (ρ : Nat → Nat) (tv : Nat → Value) (k : Nat) : Go.Proofs.YtoadmjnaakbljaaDoor.ex ρ tv k f = none := by cases f <;> first | rfl | exact h.elim

theorem RR.put {V : Addr → Prop} {ρ : Nat → Nat} {tv : Nat → Value} {w : World} {σ : Sta} (h : RR V ρ tv w σ) {d : Nat} (hd : d < 1000) (v : Value) {f : F} (hp : Plain f) (hf : FV (cold V σ ρ tv w) ρ w f v) :
    RR V ρ (setv tv d v) w (upd σ [(d, f)]) ∧ ∀ p, vol (upd σ [(d, f)]) ρ (setv tv d v) p → vol σ ρ tv p := by
  have hex : ∀ k g, upd σ [(d, f)] k = some g → ∀ b, ex ρ (setv tv d v) k g = some b → σ k = some g ∧ ex ρ tv k g = some b ∧ k ≠ d := by
    intro k g hk b hb
    rw [upd_one] at hk
    by_cases e : k = d
    · rw [if_pos e] at hk; cases hk; rw [hp.ex] at hb; cases hb
    · rw [if_neg e] at hk
      refine ⟨hk, ?_, e⟩
      cases g <;> simp_all [ex, setv]
  have hvol : ∀ p, vol (upd σ [(d, f)]) ρ (setv tv d v) p → vol σ ρ tv p := by
    rintro p ⟨k, g, h1, h2, h3⟩
    obtain ⟨h4, h5, _⟩ := hex k g h1 _ h2
    exact ⟨k, g, h4, h5, h3⟩
  have hcold : ∀ p, cold V σ ρ tv w p → cold V (upd σ [(d, f)]) ρ (setv tv d v) w p := fun p hp => ⟨hp.1, hp.2.1, fun e => hp.2.2 (hvol p e)⟩
  refine ⟨h.to (Nat.le_refl _) (fun p hp => ⟨(hcold p hp).2.2, rfl⟩) (fun k g hk => ?_) (fun k g k' g' b h1 h2 h3 h4 => ?_) (fun k g b h1 h2 => ?_), hvol⟩
  · rw [upd_one] at hk
    by_cases e : k = d
    · rw [if_pos e] at hk
      cases hk
      refine .inr (KV.fv ?_)
      rw [e, setv_same]
      exact FV.mono (ρ := ρ) (w := w) hcold (fun _ _ => rfl) (fun _ _ _ => rfl) (fun _ _ _ _ _ _ => rfl) hf
    · rw [if_neg e] at hk
      exact .inl ⟨hk, h.same hk (setv_other _ _ _ e) (fun g hg => setv_other _ _ _ (by omega)) (fun _ _ _ => rfl) (fun _ _ _ => rfl) (fun _ _ => rfl)⟩
  · obtain ⟨a1, a2, _⟩ := hex _ _ h1 _ h3
    obtain ⟨b1, b2, _⟩ := hex _ _ h2 _ h4
    exact h.dist _ _ _ _ _ a1 b1 a2 b2
  · obtain ⟨a1, a2, _⟩ := hex _ _ h1 _ h2
    exact h.exb _ _ _ a1 a2

theorem put_getD (a : Act) (d : Nat) (v : Value) (hd : d < a.tmps.size) (t : Nat) : (a.put (some d) v).tmps.getD t undef = if t = d then v else a.tmps.getD t undef := by
  show (a.tmps.setIfInBounds d v).getD t undef = _
  simp only [Array.getD_eq_getD_getElem?, Array.getElem?_setIfInBounds]
  by_cases e : d = t
  · subst e; simp [hd]
  · rw [if_neg e, if_neg (fun e2 => e e2.symm)]
theorem put_size (a : Act) (d : Option Nat) (v : Value) : (a.put d v).tmps.size = a.tmps.size := by
  cases d <;> simp [Act.put]
theorem put_defers (a : Act) (d : Option Nat) (v : Value) : (a.put d v).defers = a.defers := by
  cases d <;> rfl

theorem R.put {e : Env} {σ : Sta} {a : Act} {w : World} {ρ : Nat → Nat} {tv : Nat → Value} (hdf : a.defers = []) (hsz : a.tmps.size = e.n) (hfr : Fr e.vol0 e.w0 w) (htv : ∀ t, t < 1000 → tv t = a.tmps.getD t undef)
    (hin : ∀ x, x ∈ e.ins → ρ x = e.ρ0 x) (hvz : ∀ p, vol σ ρ tv p → e.vol0 p ∨ e.w0.heap.size ≤ p.block) (h : RR e.V ρ tv w σ) {d : Nat} (hd : d < e.n) (hn : e.n ≤ 1000) {v : Value} {f : F} (hp : Plain f) (hf : FV (cold e.V σ ρ tv w) ρ w f v) :
    R e (upd σ [(d, f)]) (a.put (some d) v) w := by
  obtain ⟨h1, h2⟩ := h.put (d := d) (by omega) v hp hf
  refine ⟨by rw [put_defers]; exact hdf, by rw [put_size]; exact hsz, hfr, ρ, setv tv d v, fun t ht => ?_, hin, fun p hv => hvz p (h2 p hv), h1⟩
  rw [put_getD _ _ _ (by omega), setv, htv t ht]

/-- new blocks -/
theorem RR.grow {V : Addr → Prop} {ρ : Nat → Nat} {tv : Nat → Value} {w w' : World} {σ : Sta} (h : RR V ρ tv w σ) (hb : Below w.heap.size w w') : RR V ρ tv w' σ :=
  h.to hb.size (fun p hp => ⟨hp.2.2, hb.cell hp.1⟩)
    (fun k f hf => .inl ⟨hf, h.same hf rfl (fun _ _ => rfl) (fun _ _ _ => rfl) (fun _ _ _ => rfl) (fun b hx => hb.block b (h.exb k f b hf hx).1)⟩)
    h.dist (fun k f b h1 h2 => ⟨Nat.lt_of_lt_of_le (h.exb k f b h1 h2).1 hb.size, (h.exb k f b h1 h2).2⟩)
theorem RR.coldNew {V : Addr → Prop} {ρ : Nat → Nat} {tv : Nat → Value} {w w' : World} {σ : Sta} (h : RR V ρ tv w σ) {p : Addr} (h1 : w.heap.size ≤ p.block) (h2 : p.block < w'.heap.size) : cold V σ ρ tv w' p :=
  ⟨h2, fun e => by have := h.vb p e; omega, fun ⟨k, f, hk, hx, _⟩ => by have := (h.exb k f _ hk hx).1; omega⟩
theorem RR.coldOld {V : Addr → Prop} {ρ : Nat → Nat} {tv : Nat → Value} {w w' : World} {σ : Sta} {p : Addr} (hb : w.heap.size ≤ w'.heap.size) (hp : cold V σ ρ tv w p) : cold V σ ρ tv w' p :=
  ⟨Nat.lt_of_lt_of_le hp.1 hb, hp.2⟩
theorem Fr.grow {vol0 : Addr → Prop} {w0 w w' : World} (h : Fr vol0 w0 w) (hb : Below w.heap.size w w') : Fr vol0 w0 w' :=
  h.trans (Fr.of_below (v0 := fun _ => False) hb) (fun _ _ e => e.elim)

/-- a new variable -/
theorem RR.newVar {V : Addr → Prop} {ρ : Nat → Nat} {tv : Nat → Value} {w : World} {σ : Sta} (h : RR V ρ tv w σ) {x : Nat} (hx : 2000 ≤ x) (hfresh : ∀ k o, σ k ≠ some (.ptr x o)) {T : TypeId} {xs : List D} {vs : List Value} (hl : LIn (cold V σ ρ tv w) w xs vs) :
    RR V (fun y => if y = x then w.heap.size else ρ y) tv (w.alloc (.cells vs.toArray T)) (upd σ [(x, .var T (xs.map .d))]) ∧
    ∀ p, vol (upd σ [(x, .var T (xs.map .d))]) (fun y => if y = x then w.heap.size else ρ y) tv p → vol σ ρ tv p ∨ p.block = w.heap.size := by
  have hbl : Below w.heap.size w (w.alloc (.cells vs.toArray T)) := (Below.refl _ _).alloc (Nat.le_refl _) _
  have hex : ∀ k g, upd σ [(x, .var T (xs.map .d))] k = some g → ∀ b, ex (fun y => if y = x then w.heap.size else ρ y) tv k g = some b → (σ k = some g ∧ ex ρ tv k g = some b ∧ k ≠ x ∧ b < w.heap.size) ∨ (k = x ∧ b = w.heap.size) := by
    intro k g hk b hb
    rw [upd_one] at hk
    by_cases e : k = x
    · rw [if_pos e] at hk; cases hk
      refine .inr ⟨e, ?_⟩
      simp [ex, e] at hb
      exact hb.symm
    · rw [if_neg e] at hk
      have h2 : ex ρ tv k g = some b := by cases g <;> simp_all [ex]
      exact .inl ⟨hk, h2, e, (h.exb k g b hk h2).1⟩
  have hvol : ∀ p, vol (upd σ [(x, .var T (xs.map .d))]) (fun y => if y = x then w.heap.size else ρ y) tv p → vol σ ρ tv p ∨ p.block = w.heap.size := by
    rintro p ⟨k, g, h1, h2, h3⟩
    rcases hex k g h1 _ h2 with ⟨h4, h5, _⟩ | ⟨_, h4⟩
    · exact .inl ⟨k, g, h4, h5, h3⟩
    · exact .inr h4
  have hcold : ∀ p, cold V σ ρ tv w p → cold V (upd σ [(x, .var T (xs.map .d))]) (fun y => if y = x then w.heap.size else ρ y) tv (w.alloc (.cells vs.toArray T)) p := fun p hp =>
    ⟨Nat.lt_of_lt_of_le hp.1 hbl.size, hp.2.1, fun e => by
      rcases hvol p e with h1 | h1
      · exact hp.2.2 h1
      · have := hp.1; omega⟩
  refine ⟨h.to hbl.size (fun p hp => ⟨(hcold p hp).2.2, hbl.cell hp.1⟩) (fun k g hk => ?_) (fun k g k' g' b h1 h2 h3 h4 => ?_) (fun k g b h1 h2 => ?_), hvol⟩
  · rw [upd_one] at hk
    by_cases e : k = x
    · rw [if_pos e] at hk
      cases hk
      refine .inr ⟨vs, ?_, CIn.ofL (hl.mono hcold (fun p hp => hbl.cell hp.1))⟩
      simp only [e, if_true]
      exact heap_alloc_new w _
    · rw [if_neg e] at hk
      exact .inl ⟨hk, h.same hk rfl (fun _ _ => rfl) (fun _ _ _ => if_neg e) (fun y o hy => if_neg (fun e2 => hfresh k o (by rw [hk, hy, e2]))) (fun b hb => hbl.block b (h.exb k g b hk hb).1)⟩
  · rcases hex _ _ h1 _ h3 with ⟨a1, a2, _, a3⟩ | ⟨a1, a2⟩ <;> rcases hex _ _ h2 _ h4 with ⟨b1, b2, _, b3⟩ | ⟨b1, b2⟩
    · exact h.dist _ _ _ _ _ a1 b1 a2 b2
    · omega
    · omega
    · rw [a1, b1]
  · rcases hex _ _ h1 _ h2 with ⟨a1, a2, _, a3⟩ | ⟨a1, a2⟩
    · exact ⟨by simp; omega, (h.exb _ _ _ a1 a2).2⟩
    · exact ⟨by simp; omega, fun p hp e => by have := h.vb p e; omega⟩

theorem frozen_row {w : World} {b : Nat} {vs : Array Value} {T : TypeId} (h : w.heap[b]? = some (.cells vs T (0, 0))) (o : Nat) : w.frozen? ⟨b, o, none⟩ = false := by
  simp [World.frozen?, h]
theorem setCells_row (b : Nat) (T : TypeId) : ∀ (us : List Value) (o : Nat) (w : World) (vs : List Value), w.heap[b]? = some (.cells vs.toArray T (0, 0)) → o + us.length ≤ vs.length →
    (w.setCells b o us).heap[b]? = some (.cells (vs.take o ++ us ++ vs.drop (o + us.length)).toArray T (0, 0))
  | [], o, w, vs, h, _ => by simp [World.setCells, h]
  | u :: us, o, w, vs, h, hl => by
    simp only [List.length_cons] at hl
    have h1 : (w.setCell ⟨b, o, none⟩ u).heap[b]? = some (.cells (vs.set o u).toArray T (0, 0)) := by
      have := heap_setCell_same w b o vs.toArray T u h
      simpa using this
    rw [World.setCells, setCells_row b T us (o + 1) _ (vs.set o u) h1 (by simp; omega)]
    congr 3
    have e1 : (vs.set o u).take (o + 1) = vs.take o ++ [u] := by
      rw [List.take_succ_eq_append_getElem (by simp; omega)]
      simp [List.take_set_of_le]
    have e2 : (vs.set o u).drop (o + 1 + us.length) = vs.drop (o + (us.length + 1)) := by
      rw [List.drop_set_of_lt (by omega), show o + 1 + us.length = o + (us.length + 1) by omega]
    rw [e1, e2]
    simp
theorem setCells_other (b : Nat) : ∀ (us : List Value) (o : Nat) (w : World) (k : Nat), k ≠ b → (w.setCells b o us).heap[k]? = w.heap[k]?
  | [], _, _, _, _ => rfl
  | u :: us, o, w, k, h => by rw [World.setCells, setCells_other b us _ _ k h, Below.heap_setCell _ _ _ _ h]
theorem setCells_size (b : Nat) : ∀ (us : List Value) (o : Nat) (w : World), (w.setCells b o us).heap.size = w.heap.size
  | [], _, _ => rfl
  | u :: us, o, w => by rw [World.setCells, setCells_size b us]; simp [World.setCell]
theorem setCells_keep (b : Nat) : ∀ (us : List Value) (o : Nat) (w : World), (w.setCells b o us).os = w.os ∧ (w.setCells b o us).tape = w.tape ∧ (w.setCells b o us).output = w.output
  | [], _, _ => ⟨rfl, rfl, rfl⟩
  | u :: us, o, w => by rw [World.setCells]; exact setCells_keep b us (o + 1) (w.setCell ⟨b, o, none⟩ u)

/-- a block that a key holds is written -/
theorem RR.write {V : Addr → Prop} {ρ : Nat → Nat} {tv : Nat → Value} {w w' : World} {σ : Sta} (h : RR V ρ tv w σ) {x : Nat} {T : TypeId} {xs ys : List C} (hx : σ x = some (.var T xs)) (hsz : w'.heap.size = w.heap.size)
    (hoth : ∀ k, k ≠ ρ x → w'.heap[k]? = w.heap[k]?) {us : List Value} (hnew : w'.heap[ρ x]? = some (.cells us.toArray T (0, 0))) (hc : CIn (cold V σ ρ tv w) w tv ys us) :
    RR V ρ tv w' (upd σ [(x, .var T ys)]) ∧ ∀ p, vol (upd σ [(x, .var T ys)]) ρ tv p → vol σ ρ tv p := by
  have hex : ∀ k g, upd σ [(x, .var T ys)] k = some g → ∀ b, ex ρ tv k g = some b → ∃ g', σ k = some g' ∧ ex ρ tv k g' = some b ∧ lo g' = lo g := by
    intro k g hk b hb
    rw [upd_one] at hk
    by_cases e : k = x
    · rw [if_pos e] at hk; cases hk
      exact ⟨.var T xs, by rw [e]; exact hx, hb, rfl⟩
    · rw [if_neg e] at hk
      exact ⟨g, hk, hb, rfl⟩
  have hvol : ∀ p, vol (upd σ [(x, .var T ys)]) ρ tv p → vol σ ρ tv p := by
    rintro p ⟨k, g, h1, h2, h3⟩
    obtain ⟨g', h4, h5, h6⟩ := hex k g h1 _ h2
    exact ⟨k, g', h4, h5, by rw [h6]; exact h3⟩
  have hne : ∀ p, cold V σ ρ tv w p → p.block ≠ ρ x := fun p hp e => hp.2.2 ⟨x, _, hx, by rw [e]; rfl, Nat.zero_le _⟩
  have hcell : ∀ p, cold V σ ρ tv w p → w'.cell? p = w.cell? p := fun p hp => World.cell?_of_block (hoth _ (hne p hp))
  have hcold : ∀ p, cold V σ ρ tv w p → cold V (upd σ [(x, .var T ys)]) ρ tv w' p := fun p hp => ⟨by rw [hsz]; exact hp.1, hp.2.1, fun e => hp.2.2 (hvol p e)⟩
  refine ⟨h.to (Nat.le_of_eq hsz.symm) (fun p hp => ⟨(hcold p hp).2.2, hcell p hp⟩) (fun k g hk => ?_) (fun k g k' g' b h1 h2 h3 h4 => ?_) (fun k g b h1 h2 => ?_), hvol⟩
  · rw [upd_one] at hk
    by_cases e : k = x
    · rw [if_pos e] at hk
      cases hk
      exact .inr ⟨us, by rw [e]; exact hnew, hc.mono hcold hcell (fun _ _ => rfl)⟩
    · rw [if_neg e] at hk
      exact .inl ⟨hk, h.same hk rfl (fun _ _ => rfl) (fun _ _ _ => rfl) (fun _ _ _ => rfl) (fun b hb => hoth b (fun e2 => e (h.dist k g x _ b hk hx hb (by rw [e2]; rfl))))⟩
  · obtain ⟨_, a1, a2, _⟩ := hex _ _ h1 _ h3
    obtain ⟨_, b1, b2, _⟩ := hex _ _ h2 _ h4
    exact h.dist _ _ _ _ _ a1 b1 a2 b2
  · obtain ⟨_, a1, a2, _⟩ := hex _ _ h1 _ h2
    rw [hsz]
    exact h.exb _ _ _ a1 a2

end Go.Proofs.YtoadmjnaakbljaaDoor
