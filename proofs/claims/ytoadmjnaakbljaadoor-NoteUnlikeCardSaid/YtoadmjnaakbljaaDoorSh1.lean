/- Shadows: what temporaries and variables hold, told as trees, apart from where memory has them. -/
import Derived.Test.YtoadmjnaakbljaaDoorBase
import Derived.Deep.MidRow
import Derived.Deep.RegionLaw
namespace Go.Proofs.YtoadmjnaakbljaaDoor
open Go Go.RowKit

/-- what one cell holds: a value, a row of elements (each of the same number of cells) that nobody writes any more, or whatever -/
inductive D where
  | lit (x : Value)
  | sl (sz : Nat) (els : List (List D))
  | any
def D.at (els : List (List D)) (i j : Nat) : Option D := (els[i]?).bind (·[j]?)

inductive DIn (S : Addr → Prop) (w : World) : D → Value → Prop
  | any (v : Value) : v.oneCell' = true → DIn S w .any v
  | lit (x : Value) : x.oneCell' = true → DIn S w (.lit x) x
  | sl (A : Option Addr) (c sz : Nat) (els : List (List D)) (val : Nat → Nat → Value) : els.length ≤ c → (0 < els.length → ∃ ad, A = some ad) → (∀ r, r ∈ els → r.length = sz) →
      (∀ i j d, D.at els i j = some d → ∃ ad, A = some ad ∧ S (ad.add (i * sz + j)) ∧ w.cell? (ad.add (i * sz + j)) = some (val i j)) →
      (∀ i j d, D.at els i j = some d → DIn S w d (val i j)) → DIn S w (.sl sz els) (.slice A els.length c)

theorem DIn.one {S : Addr → Prop} {w : World} {d : D} {v : Value} (h : DIn S w d v) : v.oneCell' = true := by
  cases h with
  | any _ h => exact h
  | lit _ h => exact h
  | sl => rfl
theorem DIn.mono {S S' : Addr → Prop} {w w' : World} (hS : ∀ p, S p → S' p) (hw : ∀ p, S p → w'.cell? p = w.cell? p) {d : D} {v : Value} (h : DIn S w d v) : DIn S' w' d v := by
  induction h with
  | any v h => exact .any v h
  | lit v h => exact .lit v h
  | sl A c sz els val hc hn hr hA _ ih =>
    refine .sl A c sz els val hc hn hr (fun i j d hd => ?_) (fun i j d hd => ih i j d hd)
    obtain ⟨ad, h1, h2, h3⟩ := hA i j d hd
    exact ⟨ad, h1, hS _ h2, (hw _ h2).trans h3⟩
/-- of the value of a row -/
theorem DIn.row {S : Addr → Prop} {w : World} {sz : Nat} {els : List (List D)} {v : Value} (h : DIn S w (.sl sz els) v) :
    ∃ A c, v = .slice A els.length c ∧ els.length ≤ c ∧ (0 < els.length → ∃ ad, A = some ad) ∧ (∀ r, r ∈ els → r.length = sz) ∧
      ∀ i j d, D.at els i j = some d → ∃ ad u, A = some ad ∧ S (ad.add (i * sz + j)) ∧ w.cell? (ad.add (i * sz + j)) = some u ∧ DIn S w d u := by
  cases h with
  | sl A c sz els val hc hn hr hA hv =>
    refine ⟨A, c, rfl, hc, hn, hr, fun i j d hd => ?_⟩
    obtain ⟨ad, h1, h2, h3⟩ := hA i j d hd
    exact ⟨ad, _, h1, h2, h3, hv i j d hd⟩
theorem DIn.ofRow {S : Addr → Prop} {w : World} {sz : Nat} {els : List (List D)} {A : Option Addr} {n c : Nat} (hn : n = els.length) (hc : els.length ≤ c) (h0 : 0 < els.length → ∃ ad, A = some ad) (hr : ∀ r, r ∈ els → r.length = sz)
    (h : ∀ i j d, D.at els i j = some d → ∃ ad u, A = some ad ∧ S (ad.add (i * sz + j)) ∧ w.cell? (ad.add (i * sz + j)) = some u ∧ DIn S w d u) : DIn S w (.sl sz els) (.slice A n c) := by
  subst hn
  refine .sl A c sz els (fun i j => ((A.map fun ad => w.cell? (ad.add (i * sz + j))).getD none).getD undef) hc h0 hr (fun i j d hd => ?_) (fun i j d hd => ?_)
  · obtain ⟨ad, u, rfl, h2, h3, _⟩ := h i j d hd
    exact ⟨ad, rfl, h2, by simp [h3]⟩
  · obtain ⟨ad, u, rfl, _, h3, h4⟩ := h i j d hd
    simp only [Option.map_some, Option.getD_some, h3]
    exact h4
theorem DIn.nil {S : Addr → Prop} {w : World} {sz : Nat} (A : Option Addr) (c : Nat) : DIn S w (.sl sz []) (.slice A 0 c) :=
  .ofRow rfl (Nat.zero_le _) (fun h => absurd h (by simp)) (fun _ h => absurd h (by simp)) (fun i j d h => by simp [D.at] at h)

/-- lists of cells -/
def LIn (S : Addr → Prop) (w : World) : List D → List Value → Prop
  | [], [] => True
  | d :: ds, v :: vs => DIn S w d v ∧ LIn S w ds vs
  | _, _ => False
theorem LIn.mono {S S' : Addr → Prop} {w w' : World} (hS : ∀ p, S p → S' p) (hw : ∀ p, S p → w'.cell? p = w.cell? p) : ∀ {ds : List D} {vs : List Value}, LIn S w ds vs → LIn S' w' ds vs
  | [], [], _ => trivial
  | _ :: _, _ :: _, h => ⟨h.1.mono hS hw, LIn.mono hS hw h.2⟩
  | [], _ :: _, h => h.elim
  | _ :: _, [], h => h.elim
theorem LIn.len {S : Addr → Prop} {w : World} : ∀ {ds : List D} {vs : List Value}, LIn S w ds vs → ds.length = vs.length
  | [], [], _ => rfl
  | _ :: _, _ :: _, h => by simp [LIn.len h.2]
  | [], _ :: _, h => h.elim
  | _ :: _, [], h => h.elim
theorem LIn.get {S : Addr → Prop} {w : World} : ∀ {ds : List D} {vs : List Value}, LIn S w ds vs → ∀ (j : Nat) (d : D), ds[j]? = some d → ∃ v, vs[j]? = some v ∧ DIn S w d v
  | [], _, _, j, d, h => by simp at h
  | _ :: _, v :: _, h, 0, d, hd => by simp at hd; subst hd; exact ⟨v, rfl, h.1⟩
  | _ :: _, _ :: _, h, j + 1, d, hd => LIn.get h.2 j d (by simpa using hd)
  | _ :: _, [], h, _, _, _ => h.elim
theorem LIn.of {S : Addr → Prop} {w : World} : ∀ {ds : List D} {vs : List Value}, ds.length = vs.length → (∀ (j : Nat) (d : D) (v : Value), ds[j]? = some d → vs[j]? = some v → DIn S w d v) → LIn S w ds vs
  | [], [], _, _ => trivial
  | _ :: _, _ :: _, hl, h => ⟨h 0 _ _ rfl rfl, LIn.of (by simpa using hl) (fun j d v h1 h2 => h (j + 1) d v (by simpa using h1) (by simpa using h2))⟩
  | [], _ :: _, hl, _ => by simp at hl
  | _ :: _, [], hl, _ => by simp at hl
theorem LIn.append {S : Addr → Prop} {w : World} : ∀ {ds es : List D} {vs us : List Value}, LIn S w ds vs → LIn S w es us → LIn S w (ds ++ es) (vs ++ us)
  | [], _, [], _, _, h => h
  | _ :: _, _, _ :: _, _, h, h2 => ⟨h.1, LIn.append h.2 h2⟩
  | [], _, _ :: _, _, h, _ => h.elim
  | _ :: _, _, [], _, h, _ => h.elim
theorem LIn.one {S : Addr → Prop} {w : World} : ∀ {ds : List D} {vs : List Value}, LIn S w ds vs → ∀ v, v ∈ vs → v.oneCell' = true
  | [], [], _, v, h => by simp at h
  | _ :: _, _ :: _, h, v, hv => by
    rcases List.mem_cons.1 hv with rfl | hv
    · exact h.1.one
    · exact LIn.one h.2 v hv
  | [], _ :: _, h, _, _ => h.elim
  | _ :: _, [], h, _, _ => h.elim
theorem LIn.drop {S : Addr → Prop} {w : World} : ∀ (n : Nat) {ds : List D} {vs : List Value}, LIn S w ds vs → LIn S w (ds.drop n) (vs.drop n)
  | 0, _, _, h => h
  | _ + 1, [], [], _ => trivial
  | n + 1, _ :: _, _ :: _, h => LIn.drop n h.2
  | _ + 1, [], _ :: _, h => h.elim
  | _ + 1, _ :: _, [], h => h.elim
theorem LIn.take {S : Addr → Prop} {w : World} : ∀ (n : Nat) {ds : List D} {vs : List Value}, LIn S w ds vs → LIn S w (ds.take n) (vs.take n)
  | 0, _, _, _ => trivial
  | _ + 1, [], [], _ => trivial
  | n + 1, _ :: _, _ :: _, h => ⟨h.1, LIn.take n h.2⟩
  | _ + 1, [], _ :: _, h => h.elim
  | _ + 1, _ :: _, [], h => h.elim

/-- one result of several -/
inductive E where
  | c (d : D)
  | agg (ds : List D)
/-- a cell of a variable: a tree, or the slice that the ghost g owns -/
inductive C where
  | d (x : D)
  | gh (g : Nat)
/-- what is known at a key: of a temporary (below 1000), of a ghost (1000 to 1999), of a variable (from 2000 on) -/
inductive F where
  | c (x : D)
  | agg (xs : List D)
  | tup (xs : List E)
  | ptr (x o : Nat)
  | el (row : List D) (o : Nat)
  | own (T : TypeId) (sz : Nat) (els : List (List D))
  | var (T : TypeId) (xs : List C)
  | und
  | non

def EIn (S : Addr → Prop) (w : World) : E → Value → Prop
  | .c d, v => DIn S w d v
  | .agg ds, v => ∃ vs : List Value, v = .agg vs.toArray ∧ LIn S w ds vs
theorem EIn.mono {S S' : Addr → Prop} {w w' : World} (hS : ∀ p, S p → S' p) (hw : ∀ p, S p → w'.cell? p = w.cell? p) {e : E} {v : Value} (h : EIn S w e v) : EIn S' w' e v := by
  cases e with
  | c d => exact DIn.mono hS hw h
  | agg ds => obtain ⟨vs, h1, h2⟩ := h; exact ⟨vs, h1, h2.mono hS hw⟩
def TIn (S : Addr → Prop) (w : World) : List E → List Value → Prop
  | [], [] => True
  | d :: ds, v :: vs => EIn S w d v ∧ TIn S w ds vs
  | _, _ => False
theorem TIn.mono {S S' : Addr → Prop} {w w' : World} (hS : ∀ p, S p → S' p) (hw : ∀ p, S p → w'.cell? p = w.cell? p) : ∀ {ds : List E} {vs : List Value}, TIn S w ds vs → TIn S' w' ds vs
  | [], [], _ => trivial
  | _ :: _, _ :: _, h => ⟨h.1.mono hS hw, TIn.mono hS hw h.2⟩
  | [], _ :: _, h => h.elim
  | _ :: _, [], h => h.elim
theorem TIn.get {S : Addr → Prop} {w : World} : ∀ {ds : List E} {vs : List Value}, TIn S w ds vs → ∀ (j : Nat) (d : E), ds[j]? = some d → ∃ v, vs[j]? = some v ∧ EIn S w d v
  | [], _, _, j, d, h => by simp at h
  | _ :: _, v :: _, h, 0, d, hd => by simp at hd; subst hd; exact ⟨v, rfl, h.1⟩
  | _ :: _, _ :: _, h, j + 1, d, hd => TIn.get h.2 j d (by simpa using hd)
  | _ :: _, [], h, _, _, _ => h.elim
def CIn (S : Addr → Prop) (w : World) (tv : Nat → Value) : List C → List Value → Prop
  | [], [] => True
  | .d d :: ds, v :: vs => DIn S w d v ∧ CIn S w tv ds vs
  | .gh g :: ds, v :: vs => (v = tv g ∧ (1000 ≤ g ∧ g < 2000) ∧ v.oneCell' = true) ∧ CIn S w tv ds vs
  | _, _ => False
theorem CIn.mono {S S' : Addr → Prop} {w w' : World} {tv tv' : Nat → Value} (hS : ∀ p, S p → S' p) (hw : ∀ p, S p → w'.cell? p = w.cell? p) : ∀ {ds : List C} {vs : List Value}, (∀ g, C.gh g ∈ ds → tv' g = tv g) → CIn S w tv ds vs → CIn S' w' tv' ds vs
  | [], [], _, _ => trivial
  | .d _ :: _, _ :: _, hg, h => ⟨h.1.mono hS hw, CIn.mono hS hw (fun g hm => hg g (List.mem_cons_of_mem _ hm)) h.2⟩
  | .gh g :: _, _ :: _, hg, h => ⟨by rw [hg g (by simp)]; exact h.1, CIn.mono hS hw (fun g hm => hg g (List.mem_cons_of_mem _ hm)) h.2⟩
  | [], _ :: _, _, h => h.elim
  | .d _ :: _, [], _, h => h.elim
  | .gh _ :: _, [], _, h => h.elim
theorem CIn.len {S : Addr → Prop} {w : World} {tv : Nat → Value} : ∀ {ds : List C} {vs : List Value}, CIn S w tv ds vs → ds.length = vs.length
  | [], [], _ => rfl
  | .d _ :: _, _ :: _, h => by simp [CIn.len h.2]
  | .gh _ :: _, _ :: _, h => by simp [CIn.len h.2]
  | [], _ :: _, h => h.elim
  | .d _ :: _, [], h => h.elim
  | .gh _ :: _, [], h => h.elim
theorem CIn.one {S : Addr → Prop} {w : World} {tv : Nat → Value} : ∀ {ds : List C} {vs : List Value}, CIn S w tv ds vs → ∀ v, v ∈ vs → v.oneCell' = true
  | [], [], _, v, h => by simp at h
  | .d _ :: _, _ :: _, h, v, hv => by
    rcases List.mem_cons.1 hv with rfl | hv
    · exact h.1.one
    · exact CIn.one h.2 v hv
  | .gh _ :: _, _ :: _, h, v, hv => by
    rcases List.mem_cons.1 hv with rfl | hv
    · exact h.1.2.2
    · exact CIn.one h.2 v hv
  | [], _ :: _, h, _, _ => h.elim
  | .d _ :: _, [], h, _, _ => h.elim
  | .gh _ :: _, [], h, _, _ => h.elim
theorem CIn.get {S : Addr → Prop} {w : World} {tv : Nat → Value} : ∀ {ds : List C} {vs : List Value}, CIn S w tv ds vs → ∀ (j : Nat) (c : C), ds[j]? = some c →
    ∃ v, vs[j]? = some v ∧ CIn S w tv [c] [v]
  | [], _, _, j, d, h => by simp at h
  | .d _ :: _, v :: _, h, 0, d, hd => by simp at hd; subst hd; exact ⟨v, rfl, h.1, trivial⟩
  | .gh _ :: _, v :: _, h, 0, d, hd => by simp at hd; subst hd; exact ⟨v, rfl, h.1, trivial⟩
  | .d _ :: _, _ :: _, h, j + 1, d, hd => CIn.get h.2 j d (by simpa using hd)
  | .gh _ :: _, _ :: _, h, j + 1, d, hd => CIn.get h.2 j d (by simpa using hd)
  | .d _ :: _, [], h, _, _, _ => h.elim
  | .gh _ :: _, [], h, _, _, _ => h.elim
theorem CIn.set {S : Addr → Prop} {w : World} {tv : Nat → Value} : ∀ {ds : List C} {vs : List Value} (j : Nat) {c : C} {v : Value}, CIn S w tv ds vs → CIn S w tv [c] [v] → CIn S w tv (ds.set j c) (vs.set j v)
  | [], [], _, _, _, _, _ => trivial
  | .d _ :: _, _ :: _, 0, .d _, _, h, h2 => ⟨h2.1, h.2⟩
  | .d _ :: _, _ :: _, 0, .gh _, _, h, h2 => ⟨h2.1, h.2⟩
  | .gh _ :: _, _ :: _, 0, .d _, _, h, h2 => ⟨h2.1, h.2⟩
  | .gh _ :: _, _ :: _, 0, .gh _, _, h, h2 => ⟨h2.1, h.2⟩
  | .d _ :: _, _ :: _, j + 1, _, _, h, h2 => ⟨h.1, CIn.set j h.2 h2⟩
  | .gh _ :: _, _ :: _, j + 1, _, _, h, h2 => ⟨h.1, CIn.set j h.2 h2⟩
  | [], _ :: _, _, _, _, h, _ => h.elim
  | .d _ :: _, [], _, _, _, h, _ => h.elim
  | .gh _ :: _, [], _, _, _, h, _ => h.elim
theorem CIn.ofL {S : Addr → Prop} {w : World} {tv : Nat → Value} : ∀ {ds : List D} {vs : List Value}, LIn S w ds vs → CIn S w tv (ds.map .d) vs
  | [], [], _ => trivial
  | _ :: _, _ :: _, h => ⟨h.1, CIn.ofL h.2⟩
  | [], _ :: _, h => h.elim
  | _ :: _, [], h => h.elim

def FV (S : Addr → Prop) (ρ : Nat → Nat) (w : World) : F → Value → Prop
  | .c d, v => DIn S w d v
  | .agg ds, v => ∃ vs : List Value, v = .agg vs.toArray ∧ LIn S w ds vs
  | .tup xs, v => ∃ vs : List Value, v = .tuple vs.toArray ∧ TIn S w xs vs
  | .ptr x o, v => v = .pointer (some ⟨ρ x, o, none⟩)
  | .el row o, v => ∃ p : Addr, v = .pointer (some p) ∧ ∀ j d, row[o + j]? = some d → S (p.add j) ∧ ∃ u, w.cell? (p.add j) = some u ∧ DIn S w d u
  | .own T sz els, v => ∃ us : List Value, w.ownsRow 0 T sz v els.length us ∧ (∀ r, r ∈ els → r.length = sz) ∧ LIn S w els.flatten us
  | .var _ _, _ => False
  | .und, v => v = undef
  | .non, _ => True
def KV (S : Addr → Prop) (ρ : Nat → Nat) (tv : Nat → Value) (w : World) (k : Nat) : F → Prop
  | .var T xs => ∃ vs : List Value, w.heap[ρ k]? = some (.cells vs.toArray T (0, 0)) ∧ CIn S w tv xs vs
  | f => FV S ρ w f (tv k)
theorem KV.fv {S : Addr → Prop} {ρ : Nat → Nat} {tv : Nat → Value} {w : World} {k : Nat} {f : F} (h : FV S ρ w f (tv k)) : KV S ρ tv w k f := by
  cases f <;> first | exact h | exact h.elim
/-- the block that a key alone may write -/
def ex (ρ : Nat → Nat) (tv : Nat → Value) (k : Nat) : F → Option Nat
  | .var _ _ => some (ρ k)
  | .own _ _ _ => (tv k).ownBlock
  | _ => none
/-- .. from this place on -/
def lo : F → Nat
  | .own _ sz els => els.length * sz
  | _ => 0
abbrev Sta := Nat → Option F
def vol (σ : Sta) (ρ : Nat → Nat) (tv : Nat → Value) (p : Addr) : Prop := ∃ k f, σ k = some f ∧ ex ρ tv k f = some p.block ∧ lo f ≤ p.off
def cold (V : Addr → Prop) (σ : Sta) (ρ : Nat → Nat) (tv : Nat → Value) (w : World) (p : Addr) : Prop := p.block < w.heap.size ∧ ¬ V p ∧ ¬ vol σ ρ tv p
structure RR (V : Addr → Prop) (ρ : Nat → Nat) (tv : Nat → Value) (w : World) (σ : Sta) : Prop where
  vb : ∀ p, V p → p.block < w.heap.size
  rel : ∀ k f, σ k = some f → KV (cold V σ ρ tv w) ρ tv w k f
  dist : ∀ k f k' f' b, σ k = some f → σ k' = some f' → ex ρ tv k f = some b → ex ρ tv k' f' = some b → k = k'
  exb : ∀ k f b, σ k = some f → ex ρ tv k f = some b → b < w.heap.size ∧ ∀ p : Addr, p.block = b → ¬ V p

/-- what of a key's fact stands apart from the trees: its value, its block -/
def Same (ρ ρ' : Nat → Nat) (tv tv' : Nat → Value) (w w' : World) (k : Nat) : F → Prop
  | .ptr x _ => tv' k = tv k ∧ ρ' x = ρ x
  | .own _ _ _ => tv' k = tv k ∧ ∀ b, (tv k).ownBlock = some b → w'.heap[b]? = w.heap[b]?
  | .var _ xs => ρ' k = ρ k ∧ w'.heap[ρ k]? = w.heap[ρ k]? ∧ ∀ g, C.gh g ∈ xs → tv' g = tv g
  | _ => tv' k = tv k
theorem Same.ex {ρ ρ' : Nat → Nat} {tv tv' : Nat → Value} {w w' : World} {k : Nat} {f : F} (h : Same ρ ρ' tv tv' w w' k f) : ex ρ' tv' k f = Go.Proofs.YtoadmjnaakbljaaDoor.ex ρ tv k f := by
  cases f <;> simp_all [Same, Go.Proofs.YtoadmjnaakbljaaDoor.ex]
theorem FV.mono {S S' : Addr → Prop} {ρ ρ' : Nat → Nat} {w w' : World} (hS : ∀ p, S p → S' p) (hw : ∀ p, S p → w'.cell? p = w.cell? p) {f : F} {v : Value}
    (hp : ∀ x o, f = .ptr x o → ρ' x = ρ x) (ho : ∀ T sz els, f = .own T sz els → ∀ b, v.ownBlock = some b → w'.heap[b]? = w.heap[b]?) (h : FV S ρ w f v) : FV S' ρ' w' f v := by
  cases f with
  | c d => exact DIn.mono hS hw h
  | agg ds => obtain ⟨vs, h1, h2⟩ := h; exact ⟨vs, h1, h2.mono hS hw⟩
  | tup xs => obtain ⟨vs, h1, h2⟩ := h; exact ⟨vs, h1, h2.mono hS hw⟩
  | ptr x o => show v = _; rw [hp x o rfl]; exact h
  | el row o =>
    obtain ⟨p, h1, h2⟩ := h
    refine ⟨p, h1, fun j d hd => ?_⟩
    obtain ⟨h3, u, h4, h5⟩ := h2 j d hd
    exact ⟨hS _ h3, u, (hw _ h3).trans h4, h5.mono hS hw⟩
  | own T sz els =>
    obtain ⟨us, h1, h2, h3⟩ := h
    refine ⟨us, ⟨h1.1, ?_⟩, h2, h3.mono hS hw⟩
    rcases h1.2 with hn | ⟨g, cap, cur, rfl, hb, hgg, rest⟩
    · exact .inl hn
    · exact .inr ⟨g, cap, cur, rfl, hb, (ho T sz els rfl g rfl).trans hgg, rest⟩
  | var T xs => exact h.elim
  | und => exact h
  | non => trivial
theorem KV.mono {S S' : Addr → Prop} {ρ ρ' : Nat → Nat} {tv tv' : Nat → Value} {w w' : World} (hS : ∀ p, S p → S' p) (hw : ∀ p, S p → w'.cell? p = w.cell? p) {k : Nat} {f : F}
    (hs : Same ρ ρ' tv tv' w w' k f) (h : KV S ρ tv w k f) : KV S' ρ' tv' w' k f := by
  cases f with
  | var T xs =>
    obtain ⟨vs, h1, h2⟩ := h
    exact ⟨vs, by rw [hs.1, hs.2.1]; exact h1, h2.mono hS hw hs.2.2⟩
  | c d => exact KV.fv (by rw [show tv' k = tv k from hs]; exact FV.mono (ρ := ρ) (ρ' := ρ') (f := .c d) hS hw (fun _ _ h => by cases h) (fun _ _ _ h => by cases h) h)
  | agg d => exact KV.fv (by rw [show tv' k = tv k from hs]; exact FV.mono (ρ := ρ) (ρ' := ρ') (f := .agg d) hS hw (fun _ _ h => by cases h) (fun _ _ _ h => by cases h) h)
  | tup d => exact KV.fv (by rw [show tv' k = tv k from hs]; exact FV.mono (ρ := ρ) (ρ' := ρ') (f := .tup d) hS hw (fun _ _ h => by cases h) (fun _ _ _ h => by cases h) h)
  | und => exact KV.fv (by rw [show tv' k = tv k from hs]; exact h)
  | non => trivial
  | el d o => exact KV.fv (by rw [show tv' k = tv k from hs]; exact FV.mono (ρ := ρ) (ρ' := ρ') (f := .el d o) hS hw (fun _ _ h => by cases h) (fun _ _ _ h => by cases h) h)
  | ptr x o => exact KV.fv (by rw [hs.1]; exact FV.mono (ρ := ρ) (ρ' := ρ') (f := .ptr x o) hS hw (fun _ _ h => by cases h; exact hs.2) (fun _ _ _ h => by cases h) h)
  | own T sz els => exact KV.fv (by rw [hs.1]; exact FV.mono (ρ := ρ) (ρ' := ρ') (f := .own T sz els) hS hw (fun _ _ h => by cases h) (fun _ _ _ _ => hs.2) h)

/-- from state to state -/
theorem RR.to {V : Addr → Prop} {ρ ρ' : Nat → Nat} {tv tv' : Nat → Value} {w w' : World} {σ σ' : Sta} (h : RR V ρ tv w σ) (hsz : w.heap.size ≤ w'.heap.size)
    (hfz : ∀ p, cold V σ ρ tv w p → ¬ vol σ' ρ' tv' p ∧ w'.cell? p = w.cell? p)
    (hk : ∀ k f, σ' k = some f → (σ k = some f ∧ Same ρ ρ' tv tv' w w' k f) ∨ KV (cold V σ' ρ' tv' w') ρ' tv' w' k f)
    (hd : ∀ k f k' f' b, σ' k = some f → σ' k' = some f' → ex ρ' tv' k f = some b → ex ρ' tv' k' f' = some b → k = k')
    (hx : ∀ k f b, σ' k = some f → ex ρ' tv' k f = some b → b < w'.heap.size ∧ ∀ p : Addr, p.block = b → ¬ V p) : RR V ρ' tv' w' σ' where
  vb p hp := Nat.lt_of_lt_of_le (h.vb p hp) hsz
  rel k f hf := by
    rcases hk k f hf with ⟨h1, h2⟩ | h2
    · exact (h.rel k f h1).mono (fun p hp => ⟨Nat.lt_of_lt_of_le hp.1 hsz, hp.2.1, (hfz p hp).1⟩) (fun p hp => (hfz p hp).2) h2
    · exact h2
  dist := hd
  exb := hx

end Go.Proofs.YtoadmjnaakbljaaDoor
