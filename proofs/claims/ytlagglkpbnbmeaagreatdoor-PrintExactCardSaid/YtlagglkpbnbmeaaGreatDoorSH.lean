/- Bundle of Tab Sh1 Sh2 Sh3 Sh4 Sh5 Sh6 Sh7 Sh8 Sh9 Sh10 Sh11 Sh12 Sh13 Sh14 Sh15 Sh16 Sh17. -/
import Derived.Test.YtlagglkpbnbmeaaGreatDoorWX
import Derived.Test.YtlagglkpbnbmeaaGreatDoorLX
import Derived.Deep.MidRow
import Derived.Deep.RegionLaw
import Derived.OrdersIn
import Derived.Shelf.Abstract
import Derived.Great.BuildSlice
import Derived.LoopNIn
import Derived.Deep.DeepAppendRoom
import Derived.Lib.AppendStr
import Derived.Laws.IdiomStrings
import Derived.MapKept

/- The table of the library that is read here. -/
namespace Go.Proofs.YtlagglkpbnbmeaaGreatDoor
open Go Go.RowKit

def TT (B : Nat) (w : World) : Prop := tab10 w B
theorem TT.below {B : Nat} {w w' : World} (h : TT B w) (hb : Below B w w') : TT B w' := fun w2 hb2 => h w2 (hb.trans hb2)
theorem TT.tab {B : Nat} {w : World} (h : TT B w) : Lib.TabIs Tryz.prog w "internal/strconv.uint64pow10" .u64 Lib.pow10Tab := h w (Below.refl _ _)

end Go.Proofs.YtlagglkpbnbmeaaGreatDoor

/- Shadows: what temporaries and variables hold, told as trees, apart from where memory has them. -/
namespace Go.Proofs.YtlagglkpbnbmeaaGreatDoor
open Go Go.RowKit

inductive D where
  | lit (x : Value)
  | sl (sz : Nat) (els : List (List D))
  | any
def D.at (els : List (List D)) (i j : Nat) : Option D := (els[i]?).bind (·[j]?)

inductive DIn (S : Addr → Prop) (w : World) : D → Value → Prop
  | any (v : Value) : v.oneCell' = true → DIn S w .any v
  | lit (x : Value) : x.oneCell' = true → DIn S w (.lit x) x
  | sl (A : Option Addr) (c sz : Nat) (els : List (List D)) (val : Nat → Nat → Value) : els.length ≤ c → (0 < els.length → ∃ ad, A = some ad) → (∀ r, r ∈ els → r.length = sz) →
      (∀ i j d, D.at els i j = some d → ∃ ad, A = some ad ∧ S (ad.add (i * sz + j)) ∧ w.cell? (ad.add (i * sz + j)) = some (val i j)) →
      (∀ i j d, D.at els i j = some d → DIn S w d (val i j)) → DIn S w (.sl sz els) (.slice A els.length c)

theorem DIn.one {S : Addr → Prop} {w : World} {d : D} {v : Value} (h : DIn S w d v) : v.oneCell' = true := by
  cases h with
  | any _ h => exact h
  | lit _ h => exact h
  | sl => rfl
theorem DIn.mono {S S' : Addr → Prop} {w w' : World} (hS : ∀ p, S p → S' p) (hw : ∀ p, S p → w'.cell? p = w.cell? p) {d : D} {v : Value} (h : DIn S w d v) : DIn S' w' d v := by
  induction h with
  | any v h => exact .any v h
  | lit v h => exact .lit v h
  | sl A c sz els val hc hn hr hA _ ih =>
    refine .sl A c sz els val hc hn hr (fun i j d hd => ?_) (fun i j d hd => ih i j d hd)
    obtain ⟨ad, h1, h2, h3⟩ := hA i j d hd
    exact ⟨ad, h1, hS _ h2, (hw _ h2).trans h3⟩
theorem DIn.row {S : Addr → Prop} {w : World} {sz : Nat} {els : List (List D)} {v : Value} (h : DIn S w (.sl sz els) v) :
    ∃ A c, v = .slice A els.length c ∧ els.length ≤ c ∧ (0 < els.length → ∃ ad, A = some ad) ∧ (∀ r, r ∈ els → r.length = sz) ∧
      ∀ i j d, D.at els i j = some d → ∃ ad u, A = some ad ∧ S (ad.add (i * sz + j)) ∧ w.cell? (ad.add (i * sz + j)) = some u ∧ DIn S w d u := by
  cases h with
  | sl A c sz els val hc hn hr hA hv =>
    refine ⟨A, c, rfl, hc, hn, hr, fun i j d hd => ?_⟩
    obtain ⟨ad, h1, h2, h3⟩ := hA i j d hd
    exact ⟨ad, _, h1, h2, h3, hv i j d hd⟩
theorem DIn.ofRow {S : Addr → Prop} {w : World} {sz : Nat} {els : List (List D)} {A : Option Addr} {n c : Nat} (hn : n = els.length) (hc : els.length ≤ c) (h0 : 0 < els.length → ∃ ad, A = some ad) (hr : ∀ r, r ∈ els → r.length = sz)
    (h : ∀ i j d, D.at els i j = some d → ∃ ad u, A = some ad ∧ S (ad.add (i * sz + j)) ∧ w.cell? (ad.add (i * sz + j)) = some u ∧ DIn S w d u) : DIn S w (.sl sz els) (.slice A n c) := by
  subst hn
  refine .sl A c sz els (fun i j => ((A.map fun ad => w.cell? (ad.add (i * sz + j))).getD none).getD undef) hc h0 hr (fun i j d hd => ?_) (fun i j d hd => ?_)
  · obtain ⟨ad, u, rfl, h2, h3, _⟩ := h i j d hd
    exact ⟨ad, rfl, h2, by simp [h3]⟩
  · obtain ⟨ad, u, rfl, _, h3, h4⟩ := h i j d hd
    simp only [Option.map_some, Option.getD_some, h3]
    exact h4
theorem DIn.nil {S : Addr → Prop} {w : World} {sz : Nat} (A : Option Addr) (c : Nat) : DIn S w (.sl sz []) (.slice A 0 c) :=
  .ofRow rfl (Nat.zero_le _) (fun h => absurd h (by simp)) (fun _ h => absurd h (by simp)) (fun i j d h => by simp [D.at] at h)

def LIn (S : Addr → Prop) (w : World) : List D → List Value → Prop
  | [], [] => True
  | d :: ds, v :: vs => DIn S w d v ∧ LIn S w ds vs
  | _, _ => False
theorem LIn.mono {S S' : Addr → Prop} {w w' : World} (hS : ∀ p, S p → S' p) (hw : ∀ p, S p → w'.cell? p = w.cell? p) : ∀ {ds : List D} {vs : List Value}, LIn S w ds vs → LIn S' w' ds vs
  | [], [], _ => trivial
  | _ :: _, _ :: _, h => ⟨h.1.mono hS hw, LIn.mono hS hw h.2⟩
  | [], _ :: _, h => h.elim
  | _ :: _, [], h => h.elim
theorem LIn.len {S : Addr → Prop} {w : World} : ∀ {ds : List D} {vs : List Value}, LIn S w ds vs → ds.length = vs.length
  | [], [], _ => rfl
  | _ :: _, _ :: _, h => by simp [LIn.len h.2]
  | [], _ :: _, h => h.elim
  | _ :: _, [], h => h.elim
theorem LIn.get {S : Addr → Prop} {w : World} : ∀ {ds : List D} {vs : List Value}, LIn S w ds vs → ∀ (j : Nat) (d : D), ds[j]? = some d → ∃ v, vs[j]? = some v ∧ DIn S w d v
  | [], _, _, j, d, h => by simp at h
  | _ :: _, v :: _, h, 0, d, hd => by simp at hd; subst hd; exact ⟨v, rfl, h.1⟩
  | _ :: _, _ :: _, h, j + 1, d, hd => LIn.get h.2 j d (by simpa using hd)
  | _ :: _, [], h, _, _, _ => h.elim
theorem LIn.of {S : Addr → Prop} {w : World} : ∀ {ds : List D} {vs : List Value}, ds.length = vs.length → (∀ (j : Nat) (d : D) (v : Value), ds[j]? = some d → vs[j]? = some v → DIn S w d v) → LIn S w ds vs
  | [], [], _, _ => trivial
  | _ :: _, _ :: _, hl, h => ⟨h 0 _ _ rfl rfl, LIn.of (by simpa using hl) (fun j d v h1 h2 => h (j + 1) d v (by simpa using h1) (by simpa using h2))⟩
  | [], _ :: _, hl, _ => by simp at hl
  | _ :: _, [], hl, _ => by simp at hl
theorem LIn.append {S : Addr → Prop} {w : World} : ∀ {ds es : List D} {vs us : List Value}, LIn S w ds vs → LIn S w es us → LIn S w (ds ++ es) (vs ++ us)
  | [], _, [], _, _, h => h
  | _ :: _, _, _ :: _, _, h, h2 => ⟨h.1, LIn.append h.2 h2⟩
  | [], _, _ :: _, _, h, _ => h.elim
  | _ :: _, _, [], _, h, _ => h.elim
theorem LIn.one {S : Addr → Prop} {w : World} : ∀ {ds : List D} {vs : List Value}, LIn S w ds vs → ∀ v, v ∈ vs → v.oneCell' = true
  | [], [], _, v, h => by simp at h
  | _ :: _, _ :: _, h, v, hv => by
    rcases List.mem_cons.1 hv with rfl | hv
    · exact h.1.one
    · exact LIn.one h.2 v hv
  | [], _ :: _, h, _, _ => h.elim
  | _ :: _, [], h, _, _ => h.elim
theorem LIn.drop {S : Addr → Prop} {w : World} : ∀ (n : Nat) {ds : List D} {vs : List Value}, LIn S w ds vs → LIn S w (ds.drop n) (vs.drop n)
  | 0, _, _, h => h
  | _ + 1, [], [], _ => trivial
  | n + 1, _ :: _, _ :: _, h => LIn.drop n h.2
  | _ + 1, [], _ :: _, h => h.elim
  | _ + 1, _ :: _, [], h => h.elim
theorem LIn.take {S : Addr → Prop} {w : World} : ∀ (n : Nat) {ds : List D} {vs : List Value}, LIn S w ds vs → LIn S w (ds.take n) (vs.take n)
  | 0, _, _, _ => trivial
  | _ + 1, [], [], _ => trivial
  | n + 1, _ :: _, _ :: _, h => ⟨h.1, LIn.take n h.2⟩
  | _ + 1, [], _ :: _, h => h.elim
  | _ + 1, _ :: _, [], h => h.elim

inductive E where
  | c (d : D)
  | agg (ds : List D)
inductive C where
  | d (x : D)
  | gh (g : Nat)
inductive F where
  | c (x : D)
  | agg (xs : List D)
  | tup (xs : List E)
  | ptr (x o : Nat)
  | el (row : List D) (o : Nat)
  | rel (ks : List Nat) (C : List Nat → Value → Prop)
  | clo (g : Nat) (row : List D)
  | ob (p : Obj → Prop)
  | own (T : TypeId) (sz : Nat) (els : List (List D))
  | var (T : TypeId) (xs : List C)
  | und
  | non

def EIn (S : Addr → Prop) (w : World) : E → Value → Prop
  | .c d, v => DIn S w d v
  | .agg ds, v => ∃ vs : List Value, v = .agg vs.toArray ∧ LIn S w ds vs
theorem EIn.mono {S S' : Addr → Prop} {w w' : World} (hS : ∀ p, S p → S' p) (hw : ∀ p, S p → w'.cell? p = w.cell? p) {e : E} {v : Value} (h : EIn S w e v) : EIn S' w' e v := by
  cases e with
  | c d => exact DIn.mono hS hw h
  | agg ds => obtain ⟨vs, h1, h2⟩ := h; exact ⟨vs, h1, h2.mono hS hw⟩
def TIn (S : Addr → Prop) (w : World) : List E → List Value → Prop
  | [], [] => True
  | d :: ds, v :: vs => EIn S w d v ∧ TIn S w ds vs
  | _, _ => False
theorem TIn.mono {S S' : Addr → Prop} {w w' : World} (hS : ∀ p, S p → S' p) (hw : ∀ p, S p → w'.cell? p = w.cell? p) : ∀ {ds : List E} {vs : List Value}, TIn S w ds vs → TIn S' w' ds vs
  | [], [], _ => trivial
  | _ :: _, _ :: _, h => ⟨h.1.mono hS hw, TIn.mono hS hw h.2⟩
  | [], _ :: _, h => h.elim
  | _ :: _, [], h => h.elim
theorem TIn.get {S : Addr → Prop} {w : World} : ∀ {ds : List E} {vs : List Value}, TIn S w ds vs → ∀ (j : Nat) (d : E), ds[j]? = some d → ∃ v, vs[j]? = some v ∧ EIn S w d v
  | [], _, _, j, d, h => by simp at h
  | _ :: _, v :: _, h, 0, d, hd => by simp at hd; subst hd; exact ⟨v, rfl, h.1⟩
  | _ :: _, _ :: _, h, j + 1, d, hd => TIn.get h.2 j d (by simpa using hd)
  | _ :: _, [], h, _, _, _ => h.elim
def CIn (S : Addr → Prop) (w : World) (tv : Nat → Value) : List C → List Value → Prop
  | [], [] => True
  | .d d :: ds, v :: vs => DIn S w d v ∧ CIn S w tv ds vs
  | .gh g :: ds, v :: vs => (v = tv g ∧ (1000 ≤ g ∧ g < 2000) ∧ v.oneCell' = true) ∧ CIn S w tv ds vs
  | _, _ => False
theorem CIn.mono {S S' : Addr → Prop} {w w' : World} {tv tv' : Nat → Value} (hS : ∀ p, S p → S' p) (hw : ∀ p, S p → w'.cell? p = w.cell? p) : ∀ {ds : List C} {vs : List Value}, (∀ g, C.gh g ∈ ds → tv' g = tv g) → CIn S w tv ds vs → CIn S' w' tv' ds vs
  | [], [], _, _ => trivial
  | .d _ :: _, _ :: _, hg, h => ⟨h.1.mono hS hw, CIn.mono hS hw (fun g hm => hg g (List.mem_cons_of_mem _ hm)) h.2⟩
  | .gh g :: _, _ :: _, hg, h => ⟨by rw [hg g (by simp)]; exact h.1, CIn.mono hS hw (fun g hm => hg g (List.mem_cons_of_mem _ hm)) h.2⟩
  | [], _ :: _, _, h => h.elim
  | .d _ :: _, [], _, h => h.elim
  | .gh _ :: _, [], _, h => h.elim
theorem CIn.len {S : Addr → Prop} {w : World} {tv : Nat → Value} : ∀ {ds : List C} {vs : List Value}, CIn S w tv ds vs → ds.length = vs.length
  | [], [], _ => rfl
  | .d _ :: _, _ :: _, h => by simp [CIn.len h.2]
  | .gh _ :: _, _ :: _, h => by simp [CIn.len h.2]
  | [], _ :: _, h => h.elim
  | .d _ :: _, [], h => h.elim
  | .gh _ :: _, [], h => h.elim
theorem CIn.one {S : Addr → Prop} {w : World} {tv : Nat → Value} : ∀ {ds : List C} {vs : List Value}, CIn S w tv ds vs → ∀ v, v ∈ vs → v.oneCell' = true
  | [], [], _, v, h => by simp at h
  | .d _ :: _, _ :: _, h, v, hv => by
    rcases List.mem_cons.1 hv with rfl | hv
    · exact h.1.one
    · exact CIn.one h.2 v hv
  | .gh _ :: _, _ :: _, h, v, hv => by
    rcases List.mem_cons.1 hv with rfl | hv
    · exact h.1.2.2
    · exact CIn.one h.2 v hv
  | [], _ :: _, h, _, _ => h.elim
  | .d _ :: _, [], h, _, _ => h.elim
  | .gh _ :: _, [], h, _, _ => h.elim
theorem CIn.get {S : Addr → Prop} {w : World} {tv : Nat → Value} : ∀ {ds : List C} {vs : List Value}, CIn S w tv ds vs → ∀ (j : Nat) (c : C), ds[j]? = some c →
    ∃ v, vs[j]? = some v ∧ CIn S w tv [c] [v]
  | [], _, _, j, d, h => by simp at h
  | .d _ :: _, v :: _, h, 0, d, hd => by simp at hd; subst hd; exact ⟨v, rfl, h.1, trivial⟩
  | .gh _ :: _, v :: _, h, 0, d, hd => by simp at hd; subst hd; exact ⟨v, rfl, h.1, trivial⟩
  | .d _ :: _, _ :: _, h, j + 1, d, hd => CIn.get h.2 j d (by simpa using hd)
  | .gh _ :: _, _ :: _, h, j + 1, d, hd => CIn.get h.2 j d (by simpa using hd)
  | .d _ :: _, [], h, _, _, _ => h.elim
  | .gh _ :: _, [], h, _, _, _ => h.elim
theorem CIn.set {S : Addr → Prop} {w : World} {tv : Nat → Value} : ∀ {ds : List C} {vs : List Value} (j : Nat) {c : C} {v : Value}, CIn S w tv ds vs → CIn S w tv [c] [v] → CIn S w tv (ds.set j c) (vs.set j v)
  | [], [], _, _, _, _, _ => trivial
  | .d _ :: _, _ :: _, 0, .d _, _, h, h2 => ⟨h2.1, h.2⟩
  | .d _ :: _, _ :: _, 0, .gh _, _, h, h2 => ⟨h2.1, h.2⟩
  | .gh _ :: _, _ :: _, 0, .d _, _, h, h2 => ⟨h2.1, h.2⟩
  | .gh _ :: _, _ :: _, 0, .gh _, _, h, h2 => ⟨h2.1, h.2⟩
  | .d _ :: _, _ :: _, j + 1, _, _, h, h2 => ⟨h.1, CIn.set j h.2 h2⟩
  | .gh _ :: _, _ :: _, j + 1, _, _, h, h2 => ⟨h.1, CIn.set j h.2 h2⟩
  | [], _ :: _, _, _, _, h, _ => h.elim
  | .d _ :: _, [], _, _, _, h, _ => h.elim
  | .gh _ :: _, [], _, _, _, h, _ => h.elim
theorem CIn.ofL {S : Addr → Prop} {w : World} {tv : Nat → Value} : ∀ {ds : List D} {vs : List Value}, LIn S w ds vs → CIn S w tv (ds.map .d) vs
  | [], [], _ => trivial
  | _ :: _, _ :: _, h => ⟨h.1, CIn.ofL h.2⟩
  | [], _ :: _, h => h.elim
  | _ :: _, [], h => h.elim

abbrev mapT : Nat := 1000007
def mapEs : List Value → Nat → List MapEntry
  | k :: v :: r, i => ⟨k, v, i⟩ :: mapEs r (i + 1)
  | _, _ => []
def mapO : List Value → Obj
  | [.iface _ (.agg a)] => .map (mapEs a.toList 0).toArray (a.size / 2)
  | _ => .map #[] 0
def objV (T : TypeId) (vs : Array Value) : Obj := bif Nat.beq T mapT then mapO vs.toList else .cells vs T (0, 0)
theorem objV_row {T : TypeId} (vs : Array Value) (h : Nat.beq T mapT = false) : objV T vs = .cells vs T (0, 0) := by unfold objV; rw [h]; rfl
def ptrV (b o : Nat) : Value := bif Nat.beq o mapT then .map (some b) else .pointer (some ⟨b, o, none⟩)
theorem ptrV_ptr {b o : Nat} (h : Nat.blt o mapT = true) : ptrV b o = .pointer (some ⟨b, o, none⟩) := by
  have h1 : o < mapT := Nat.le_of_ble_eq_true h
  have h2 : Nat.beq o mapT = false := by
    cases h3 : Nat.beq o mapT with
    | false => rfl
    | true => have := Nat.eq_of_beq_eq_true h3; omega
  unfold ptrV; rw [h2]; rfl
theorem and_mapT {n T : Nat} (h : (Nat.blt n mapT && !Nat.beq T mapT) = true) : Nat.blt n mapT = true ∧ Nat.beq T mapT = false := by
  rw [Bool.and_eq_true] at h
  exact ⟨h.1, by simpa using h.2⟩
theorem and_newT {x T : Nat} (h : (Nat.ble 2000 x && !Nat.beq T mapT) = true) : 2000 ≤ x ∧ Nat.beq T mapT = false := by
  rw [Bool.and_eq_true] at h
  exact ⟨Nat.le_of_ble_eq_true h.1, by simpa using h.2⟩

def FV (S : Addr → Prop) (ρ : Nat → Nat) (w : World) : F → Value → Prop
  | .c d, v => DIn S w d v
  | .agg ds, v => ∃ vs : List Value, v = .agg vs.toArray ∧ LIn S w ds vs
  | .tup xs, v => ∃ vs : List Value, v = .tuple vs.toArray ∧ TIn S w xs vs
  | .ptr x o, v => v = ptrV (ρ x) o
  | .el row o, v => ∃ p : Addr, v = .pointer (some p) ∧ ∀ j d, row[o + j]? = some d → S (p.add j) ∧ ∃ u, w.cell? (p.add j) = some u ∧ DIn S w d u
  | .rel ks C, v => C (ks.map ρ) v
  | .clo g row, v => ∃ p : Addr, v = .func (.func g) #[] #[.pointer (some p)] ∧ ∀ j d, row[0 + j]? = some d → S (p.add j) ∧ ∃ u, w.cell? (p.add j) = some u ∧ DIn S w d u
  | .own T sz els, v => ∃ us : List Value, w.ownsRow 0 T sz v els.length us ∧ (∀ r, r ∈ els → r.length = sz) ∧ LIn S w els.flatten us
  | .var _ _, _ => False
  | .ob _, _ => True
  | .und, v => v = undef
  | .non, _ => True
def KV (S : Addr → Prop) (ρ : Nat → Nat) (tv : Nat → Value) (w : World) (k : Nat) : F → Prop
  | .var T xs => ∃ vs : List Value, w.heap[ρ k]? = some (objV T vs.toArray) ∧ CIn S w tv xs vs
  | .ob p => ∃ o : Obj, w.heap[ρ k]? = some o ∧ p o
  | f => FV S ρ w f (tv k)
theorem KV.fv {S : Addr → Prop} {ρ : Nat → Nat} {tv : Nat → Value} {w : World} {k : Nat} {f : F} (h : FV S ρ w f (tv k)) (hb : ∀ p, f ≠ .ob p := by intro p e; cases e) : KV S ρ tv w k f := by
  cases f <;> first | exact h | exact h.elim | exact absurd rfl (hb _)
def ex (ρ : Nat → Nat) (tv : Nat → Value) (k : Nat) : F → Option Nat
  | .var _ _ => some (ρ k)
  | .ob _ => some (ρ k)
  | .own _ _ _ => (tv k).ownBlock
  | _ => none
def lo : F → Nat
  | .own _ sz els => els.length * sz
  | _ => 0
abbrev Sta := Nat → Option F
def vol (σ : Sta) (ρ : Nat → Nat) (tv : Nat → Value) (p : Addr) : Prop := ∃ k f, σ k = some f ∧ ex ρ tv k f = some p.block ∧ lo f ≤ p.off
def cold (V : Addr → Prop) (σ : Sta) (ρ : Nat → Nat) (tv : Nat → Value) (w : World) (p : Addr) : Prop := p.block < w.heap.size ∧ ¬ V p ∧ ¬ vol σ ρ tv p
structure RR (V : Addr → Prop) (ρ : Nat → Nat) (tv : Nat → Value) (w : World) (σ : Sta) : Prop where
  vb : ∀ p, V p → p.block < w.heap.size
  rel : ∀ k f, σ k = some f → KV (cold V σ ρ tv w) ρ tv w k f
  dist : ∀ k f k' f' b, σ k = some f → σ k' = some f' → ex ρ tv k f = some b → ex ρ tv k' f' = some b → k = k'
  exb : ∀ k f b, σ k = some f → ex ρ tv k f = some b → b < w.heap.size ∧ ∀ p : Addr, p.block = b → ¬ V p

inductive IsV : F → TypeId → List C → Prop
  | var (T : TypeId) (xs : List C) : IsV (.var T xs) T xs
  | ob (p : Obj → Prop) (T : TypeId) (xs : List C) : IsV (.ob p) T xs
def IsRef (f : F) (x o : Nat) : Prop := f = .ptr x o ∨ ∃ ks C, f = .rel ks C ∧ x ∈ ks
def Same (ρ ρ' : Nat → Nat) (tv tv' : Nat → Value) (w w' : World) (k : Nat) : F → Prop
  | .ptr x _ => tv' k = tv k ∧ ρ' x = ρ x
  | .rel ks _ => tv' k = tv k ∧ ∀ x, x ∈ ks → ρ' x = ρ x
  | .ob _ => ρ' k = ρ k ∧ w'.heap[ρ k]? = w.heap[ρ k]?
  | .own _ _ _ => tv' k = tv k ∧ ∀ b, (tv k).ownBlock = some b → w'.heap[b]? = w.heap[b]?
  | .var _ xs => ρ' k = ρ k ∧ w'.heap[ρ k]? = w.heap[ρ k]? ∧ ∀ g, C.gh g ∈ xs → tv' g = tv g
  | _ => tv' k = tv k
theorem Same.ex {ρ ρ' : Nat → Nat} {tv tv' : Nat → Value} {w w' : World} {k : Nat} {f : F} (h : Same ρ ρ' tv tv' w w' k f) : ex ρ' tv' k f = Go.Proofs.YtlagglkpbnbmeaaGreatDoor.ex ρ tv k f := by
  cases f <;> simp_all [Same, Go.Proofs.YtlagglkpbnbmeaaGreatDoor.ex]
theorem FV.mono {S S' : Addr → Prop} {ρ ρ' : Nat → Nat} {w w' : World} (hS : ∀ p, S p → S' p) (hw : ∀ p, S p → w'.cell? p = w.cell? p) {f : F} {v : Value}
    (hp : ∀ x o, IsRef f x o → ρ' x = ρ x) (ho : ∀ T sz els, f = .own T sz els → ∀ b, v.ownBlock = some b → w'.heap[b]? = w.heap[b]?) (h : FV S ρ w f v) : FV S' ρ' w' f v := by
  cases f with
  | c d => exact DIn.mono hS hw h
  | agg ds => obtain ⟨vs, h1, h2⟩ := h; exact ⟨vs, h1, h2.mono hS hw⟩
  | tup xs => obtain ⟨vs, h1, h2⟩ := h; exact ⟨vs, h1, h2.mono hS hw⟩
  | ptr x o => show v = _; rw [hp x o (.inl rfl)]; exact h
  | el row o =>
    obtain ⟨p, h1, h2⟩ := h
    refine ⟨p, h1, fun j d hd => ?_⟩
    obtain ⟨h3, u, h4, h5⟩ := h2 j d hd
    exact ⟨hS _ h3, u, (hw _ h3).trans h4, h5.mono hS hw⟩
  | clo g row =>
    obtain ⟨p, h1, h2⟩ := h
    refine ⟨p, h1, fun j d hd => ?_⟩
    obtain ⟨h3, u, h4, h5⟩ := h2 j d hd
    exact ⟨hS _ h3, u, (hw _ h3).trans h4, h5.mono hS hw⟩
  | ob p => trivial
  | rel ks C =>
    show C (ks.map ρ') v
    rw [List.map_congr_left (fun x hx => hp x 0 (.inr ⟨ks, C, rfl, hx⟩))]
    exact h
  | own T sz els =>
    obtain ⟨us, h1, h2, h3⟩ := h
    refine ⟨us, ⟨h1.1, ?_⟩, h2, h3.mono hS hw⟩
    rcases h1.2 with hn | ⟨g, cap, cur, rfl, hb, hgg, rest⟩
    · exact .inl hn
    · exact .inr ⟨g, cap, cur, rfl, hb, (ho T sz els rfl g rfl).trans hgg, rest⟩
  | var T xs => exact h.elim
  | und => exact h
  | non => trivial
theorem KV.mono {S S' : Addr → Prop} {ρ ρ' : Nat → Nat} {tv tv' : Nat → Value} {w w' : World} (hS : ∀ p, S p → S' p) (hw : ∀ p, S p → w'.cell? p = w.cell? p) {k : Nat} {f : F}
    (hs : Same ρ ρ' tv tv' w w' k f) (h : KV S ρ tv w k f) : KV S' ρ' tv' w' k f := by
  cases f with
  | var T xs =>
    obtain ⟨vs, h1, h2⟩ := h
    exact ⟨vs, by rw [hs.1, hs.2.1]; exact h1, h2.mono hS hw hs.2.2⟩
  | c d => exact KV.fv (by rw [show tv' k = tv k from hs]; exact FV.mono (ρ := ρ) (ρ' := ρ') (f := .c d) hS hw (fun _ _ h => by rcases h with h | ⟨_, _, h, _⟩ <;> cases h) (fun _ _ _ h => by cases h) h)
  | agg d => exact KV.fv (by rw [show tv' k = tv k from hs]; exact FV.mono (ρ := ρ) (ρ' := ρ') (f := .agg d) hS hw (fun _ _ h => by rcases h with h | ⟨_, _, h, _⟩ <;> cases h) (fun _ _ _ h => by cases h) h)
  | tup d => exact KV.fv (by rw [show tv' k = tv k from hs]; exact FV.mono (ρ := ρ) (ρ' := ρ') (f := .tup d) hS hw (fun _ _ h => by rcases h with h | ⟨_, _, h, _⟩ <;> cases h) (fun _ _ _ h => by cases h) h)
  | und => exact KV.fv (by rw [show tv' k = tv k from hs]; exact h)
  | non => trivial
  | el d o => exact KV.fv (by rw [show tv' k = tv k from hs]; exact FV.mono (ρ := ρ) (ρ' := ρ') (f := .el d o) hS hw (fun _ _ h => by rcases h with h | ⟨_, _, h, _⟩ <;> cases h) (fun _ _ _ h => by cases h) h)
  | ptr x o => exact KV.fv (by rw [hs.1]; exact FV.mono (ρ := ρ) (ρ' := ρ') (f := .ptr x o) hS hw (fun _ _ h => by rcases h with h | ⟨_, _, h, _⟩ <;> cases h; exact hs.2) (fun _ _ _ h => by cases h) h)
  | ob p =>
    obtain ⟨o, h1, h2⟩ := h
    exact ⟨o, by rw [hs.1, hs.2]; exact h1, h2⟩
  | clo d o => exact KV.fv (by rw [show tv' k = tv k from hs]; exact FV.mono (ρ := ρ) (ρ' := ρ') (f := .clo d o) hS hw (fun _ _ h => by rcases h with h | ⟨_, _, h, _⟩ <;> cases h) (fun _ _ _ h => by cases h) h)
  | rel ks C => exact KV.fv (by rw [hs.1]; exact FV.mono (ρ := ρ) (ρ' := ρ') (f := .rel ks C) hS hw (fun x _ h => by rcases h with h | ⟨_, _, h, hx⟩ <;> cases h; exact hs.2 x hx) (fun _ _ _ h => by cases h) h)
  | own T sz els => exact KV.fv (by rw [hs.1]; exact FV.mono (ρ := ρ) (ρ' := ρ') (f := .own T sz els) hS hw (fun _ _ h => by rcases h with h | ⟨_, _, h, _⟩ <;> cases h) (fun _ _ _ _ => hs.2) h)

theorem RR.to {V : Addr → Prop} {ρ ρ' : Nat → Nat} {tv tv' : Nat → Value} {w w' : World} {σ σ' : Sta} (h : RR V ρ tv w σ) (hsz : w.heap.size ≤ w'.heap.size)
    (hfz : ∀ p, cold V σ ρ tv w p → ¬ vol σ' ρ' tv' p ∧ w'.cell? p = w.cell? p)
    (hk : ∀ k f, σ' k = some f → (σ k = some f ∧ Same ρ ρ' tv tv' w w' k f) ∨ KV (cold V σ' ρ' tv' w') ρ' tv' w' k f)
    (hd : ∀ k f k' f' b, σ' k = some f → σ' k' = some f' → ex ρ' tv' k f = some b → ex ρ' tv' k' f' = some b → k = k')
    (hx : ∀ k f b, σ' k = some f → ex ρ' tv' k f = some b → b < w'.heap.size ∧ ∀ p : Addr, p.block = b → ¬ V p) : RR V ρ' tv' w' σ' where
  vb p hp := Nat.lt_of_lt_of_le (h.vb p hp) hsz
  rel k f hf := by
    rcases hk k f hf with ⟨h1, h2⟩ | h2
    · exact (h.rel k f h1).mono (fun p hp => ⟨Nat.lt_of_lt_of_le hp.1 hsz, hp.2.1, (hfz p hp).1⟩) (fun p hp => (hfz p hp).2) h2
    · exact h2
  dist := hd
  exb := hx

end Go.Proofs.YtlagglkpbnbmeaaGreatDoor

/- Shadows: the state of a run, and what puts, new variables, stores and new rows do to it. -/
namespace Go.Proofs.YtlagglkpbnbmeaaGreatDoor
set_option linter.unusedVariables false
open Go Go.RowKit

def find : List (Nat × F) → Sta
  | [], _ => none
  | (k, f) :: r, n => bif Nat.beq k n then some f else find r n
theorem find_cons (k : Nat) (f : F) (r : List (Nat × F)) (n : Nat) : find ((k, f) :: r) n = if k = n then some f else find r n := by
  rw [find]
  by_cases h : k = n
  · rw [if_pos h, h, Nat.beq_refl]; rfl
  · rw [if_neg h]
    have : Nat.beq k n = false := by
      cases hb : Nat.beq k n with
      | false => rfl
      | true => exact absurd (Nat.eq_of_beq_eq_true hb) h
    rw [this]; rfl
theorem find_append (l r : List (Nat × F)) (n : Nat) : find (l ++ r) n = match find l n with | some f => some f | none => find r n := by
  induction l with
  | nil => rfl
  | cons x l ih =>
    obtain ⟨k, f⟩ := x
    rw [List.cons_append, find_cons, find_cons]
    by_cases h : k = n
    · rw [if_pos h, if_pos h]
    · rw [if_neg h, if_neg h, ih]
def upd (σ : Sta) (post : List (Nat × F)) : Sta := fun k => match find post k with | some f => some f | none => σ k
theorem upd_find (l post : List (Nat × F)) : upd (find l) post = find (post ++ l) := by
  funext k; rw [find_append]; rfl
theorem upd_one (σ : Sta) (k : Nat) (f : F) (n : Nat) : upd σ [(k, f)] n = if n = k then some f else σ n := by
  unfold upd
  rw [find_cons]
  by_cases h : k = n
  · rw [if_pos h, if_pos h.symm]
  · rw [if_neg h, if_neg (fun e => h e.symm)]; rfl

structure Env where
  V : Addr → Prop
  ρ0 : Nat → Nat
  ins : List Nat
  w0 : World
  vol0 : Addr → Prop
  n : Nat
  B : Nat
  tt : TT B w0
  hv : ∀ p, vol0 p → B ≤ p.block
  hB : B ≤ w0.heap.size
  ds : List Deferred := []
structure Fr (vol0 : Addr → Prop) (w0 w : World) : Prop where
  os : w.os = w0.os
  tape : w.tape = w0.tape
  output : w.output = w0.output
  size : w0.heap.size ≤ w.heap.size
  cell : ∀ p : Addr, p.block < w0.heap.size → ¬ vol0 p → w.cell? p = w0.cell? p
  block : ∀ k, k < w0.heap.size → (∀ p : Addr, p.block = k → ¬ vol0 p) → w.heap[k]? = w0.heap[k]?
theorem Fr.refl (vol0 : Addr → Prop) (w : World) : Fr vol0 w w := ⟨rfl, rfl, rfl, Nat.le_refl _, fun _ _ _ => rfl, fun _ _ _ => rfl⟩
theorem Fr.trans {v0 v1 : Addr → Prop} {a b c : World} (h : Fr v0 a b) (k : Fr v1 b c) (hv : ∀ p : Addr, p.block < a.heap.size → v1 p → v0 p) : Fr v0 a c :=
  ⟨k.os.trans h.os, k.tape.trans h.tape, k.output.trans h.output, Nat.le_trans h.size k.size,
   fun p hp hn => (k.cell p (Nat.lt_of_lt_of_le hp h.size) (fun e => hn (hv p hp e))).trans (h.cell p hp hn),
   fun i hi hn => (k.block i (Nat.lt_of_lt_of_le hi h.size) (fun p hp e => hn p hp (hv p (by omega) e))).trans (h.block i hi hn)⟩
theorem Fr.below {v0 : Addr → Prop} {w w' : World} (h : Fr v0 w w') (hv : ∀ p : Addr, p.block < w.heap.size → ¬ v0 p) : Below w.heap.size w w' :=
  ⟨h.os, h.tape, h.output, h.size, fun k hk => h.block k hk (fun p _ => hv p (by omega))⟩
theorem Fr.of_below {v0 : Addr → Prop} {w w' : World} (h : Below w.heap.size w w') : Fr v0 w w' :=
  ⟨h.os, h.tape, h.output, h.size, fun p hp _ => h.cell hp, fun k hk _ => h.block k hk⟩

theorem Fr.belowB {v0 : Addr → Prop} {w w' : World} {B : Nat} (h : Fr v0 w w') (hv : ∀ p, v0 p → B ≤ p.block) (hB : B ≤ w.heap.size) : Below B w w' :=
  ⟨h.os, h.tape, h.output, h.size, fun k hk => h.block k (by omega) (fun p hp hv' => by have := hv p hv'; omega)⟩
structure R (e : Env) (σ : Sta) (a : Act) (w : World) : Prop where
  defers : a.defers = e.ds
  size : a.tmps.size = e.n
  fr : Fr e.vol0 e.w0 w
  st : ∃ ρ tv, (∀ t, t < 1000 → tv t = a.tmps.getD t undef) ∧ (∀ x, x ∈ e.ins → ρ x = e.ρ0 x) ∧ (∀ p, vol σ ρ tv p → e.vol0 p ∨ e.w0.heap.size ≤ p.block) ∧ RR e.V ρ tv w σ

theorem CIn.ghosts {S : Addr → Prop} {w : World} {tv : Nat → Value} : ∀ {ds : List C} {vs : List Value}, CIn S w tv ds vs → ∀ g, C.gh g ∈ ds → 1000 ≤ g ∧ g < 2000
  | [], [], _, _, h => by simp at h
  | .d _ :: _, _ :: _, h, g, hg => CIn.ghosts h.2 g (by simpa using hg)
  | .gh g' :: _, _ :: _, h, g, hg => by
    rcases List.mem_cons.1 hg with h1 | h1
    · cases h1; exact h.1.2.1
    · exact CIn.ghosts h.2 g h1
  | [], _ :: _, h, _, _ => h.elim
  | .d _ :: _, [], h, _, _ => h.elim
  | .gh _ :: _, [], h, _, _ => h.elim

theorem RR.same {V : Addr → Prop} {ρ ρ' : Nat → Nat} {tv tv' : Nat → Value} {w w' : World} {σ : Sta} (h : RR V ρ tv w σ) {k : Nat} {f : F} (hf : σ k = some f) (ht : tv' k = tv k) (hg : ∀ g, 1000 ≤ g → tv' g = tv g)
    (hρ : ∀ T xs, IsV f T xs → ρ' k = ρ k) (hp : ∀ x o, IsRef f x o → ρ' x = ρ x) (hb : ∀ b, ex ρ tv k f = some b → w'.heap[b]? = w.heap[b]?) : Same ρ ρ' tv tv' w w' k f := by
  cases f with
  | var T xs =>
    obtain ⟨vs, _, h2⟩ := h.rel k _ hf
    exact ⟨hρ T xs (.var T xs), hb _ rfl, fun g hm => hg g (h2.ghosts g hm).1⟩
  | ob p => exact ⟨hρ 0 [] (.ob p 0 []), hb _ rfl⟩
  | ptr x o => exact ⟨ht, hp x o (.inl rfl)⟩
  | rel ks C => exact ⟨ht, fun x hx => hp x 0 (.inr ⟨ks, C, rfl, hx⟩)⟩
  | clo d o => exact ht
  | own T sz els => exact ⟨ht, fun b hb' => hb b hb'⟩
  | c d => exact ht
  | agg d => exact ht
  | tup d => exact ht
  | el d o => exact ht
  | und => exact ht
  | non => exact ht

def setv (tv : Nat → Value) (d : Nat) (v : Value) : Nat → Value := fun t => if t = d then v else tv t
theorem setv_same (tv : Nat → Value) (d : Nat) (v : Value) : setv tv d v d = v := if_pos rfl
theorem setv_other (tv : Nat → Value) (d : Nat) (v : Value) {t : Nat} (h : t ≠ d) : setv tv d v t = tv t := if_neg h
def Plain : F → Prop
  | .own _ _ _ | .var _ _ | .ob _ => False
  | _ => True
theorem Plain.ex {f : F} (h : Plain f) (ρ : Nat → Nat) (tv : Nat → Value) (k : Nat) : Go.Proofs.YtlagglkpbnbmeaaGreatDoor.ex ρ tv k f = none := by cases f <;> first | rfl | exact h.elim

theorem RR.put {V : Addr → Prop} {ρ : Nat → Nat} {tv : Nat → Value} {w : World} {σ : Sta} (h : RR V ρ tv w σ) {d : Nat} (hd : d < 1000) (v : Value) {f : F} (hp : Plain f) (hf : FV (cold V σ ρ tv w) ρ w f v) :
    RR V ρ (setv tv d v) w (upd σ [(d, f)]) ∧ ∀ p, vol (upd σ [(d, f)]) ρ (setv tv d v) p → vol σ ρ tv p := by
  have hex : ∀ k g, upd σ [(d, f)] k = some g → ∀ b, ex ρ (setv tv d v) k g = some b → σ k = some g ∧ ex ρ tv k g = some b ∧ k ≠ d := by
    intro k g hk b hb
    rw [upd_one] at hk
    by_cases e : k = d
    · rw [if_pos e] at hk; cases hk; rw [hp.ex] at hb; cases hb
    · rw [if_neg e] at hk
      refine ⟨hk, ?_, e⟩
      cases g <;> simp_all [ex, setv]
  have hvol : ∀ p, vol (upd σ [(d, f)]) ρ (setv tv d v) p → vol σ ρ tv p := by
    rintro p ⟨k, g, h1, h2, h3⟩
    obtain ⟨h4, h5, _⟩ := hex k g h1 _ h2
    exact ⟨k, g, h4, h5, h3⟩
  have hcold : ∀ p, cold V σ ρ tv w p → cold V (upd σ [(d, f)]) ρ (setv tv d v) w p := fun p hp => ⟨hp.1, hp.2.1, fun e => hp.2.2 (hvol p e)⟩
  refine ⟨h.to (Nat.le_refl _) (fun p hp => ⟨(hcold p hp).2.2, rfl⟩) (fun k g hk => ?_) (fun k g k' g' b h1 h2 h3 h4 => ?_) (fun k g b h1 h2 => ?_), hvol⟩
  · rw [upd_one] at hk
    by_cases e : k = d
    · rw [if_pos e] at hk
      cases hk
      refine .inr (KV.fv ?_ (fun p e => by rw [e] at hp; exact hp))
      rw [e, setv_same]
      exact FV.mono (ρ := ρ) (w := w) hcold (fun _ _ => rfl) (fun _ _ _ => rfl) (fun _ _ _ _ _ _ => rfl) hf
    · rw [if_neg e] at hk
      exact .inl ⟨hk, h.same hk (setv_other _ _ _ e) (fun g hg => setv_other _ _ _ (by omega)) (fun _ _ _ => rfl) (fun _ _ _ => rfl) (fun _ _ => rfl)⟩
  · obtain ⟨a1, a2, _⟩ := hex _ _ h1 _ h3
    obtain ⟨b1, b2, _⟩ := hex _ _ h2 _ h4
    exact h.dist _ _ _ _ _ a1 b1 a2 b2
  · obtain ⟨a1, a2, _⟩ := hex _ _ h1 _ h2
    exact h.exb _ _ _ a1 a2

theorem put_getD (a : Act) (d : Nat) (v : Value) (hd : d < a.tmps.size) (t : Nat) : (a.put (some d) v).tmps.getD t undef = if t = d then v else a.tmps.getD t undef := by
  show (a.tmps.setIfInBounds d v).getD t undef = _
  simp only [Array.getD_eq_getD_getElem?, Array.getElem?_setIfInBounds]
  by_cases e : d = t
  · subst e; simp [hd]
  · rw [if_neg e, if_neg (fun e2 => e e2.symm)]
theorem put_size (a : Act) (d : Option Nat) (v : Value) : (a.put d v).tmps.size = a.tmps.size := by
  cases d <;> simp [Act.put]
theorem put_defers (a : Act) (d : Option Nat) (v : Value) : (a.put d v).defers = a.defers := by
  cases d <;> rfl

theorem R.put {e : Env} {σ : Sta} {a : Act} {w : World} {ρ : Nat → Nat} {tv : Nat → Value} (hdf : a.defers = e.ds) (hsz : a.tmps.size = e.n) (hfr : Fr e.vol0 e.w0 w) (htv : ∀ t, t < 1000 → tv t = a.tmps.getD t undef)
    (hin : ∀ x, x ∈ e.ins → ρ x = e.ρ0 x) (hvz : ∀ p, vol σ ρ tv p → e.vol0 p ∨ e.w0.heap.size ≤ p.block) (h : RR e.V ρ tv w σ) {d : Nat} (hd : d < e.n) (hn : e.n ≤ 1000) {v : Value} {f : F} (hp : Plain f) (hf : FV (cold e.V σ ρ tv w) ρ w f v) :
    R e (upd σ [(d, f)]) (a.put (some d) v) w := by
  obtain ⟨h1, h2⟩ := h.put (d := d) (by omega) v hp hf
  refine ⟨by rw [put_defers]; exact hdf, by rw [put_size]; exact hsz, hfr, ρ, setv tv d v, fun t ht => ?_, hin, fun p hv => hvz p (h2 p hv), h1⟩
  rw [put_getD _ _ _ (by omega), setv, htv t ht]

theorem RR.grow {V : Addr → Prop} {ρ : Nat → Nat} {tv : Nat → Value} {w w' : World} {σ : Sta} (h : RR V ρ tv w σ) (hb : Below w.heap.size w w') : RR V ρ tv w' σ :=
  h.to hb.size (fun p hp => ⟨hp.2.2, hb.cell hp.1⟩)
    (fun k f hf => .inl ⟨hf, h.same hf rfl (fun _ _ => rfl) (fun _ _ _ => rfl) (fun _ _ _ => rfl) (fun b hx => hb.block b (h.exb k f b hf hx).1)⟩)
    h.dist (fun k f b h1 h2 => ⟨Nat.lt_of_lt_of_le (h.exb k f b h1 h2).1 hb.size, (h.exb k f b h1 h2).2⟩)
theorem RR.coldNew {V : Addr → Prop} {ρ : Nat → Nat} {tv : Nat → Value} {w w' : World} {σ : Sta} (h : RR V ρ tv w σ) {p : Addr} (h1 : w.heap.size ≤ p.block) (h2 : p.block < w'.heap.size) : cold V σ ρ tv w' p :=
  ⟨h2, fun e => by have := h.vb p e; omega, fun ⟨k, f, hk, hx, _⟩ => by have := (h.exb k f _ hk hx).1; omega⟩
theorem RR.coldOld {V : Addr → Prop} {ρ : Nat → Nat} {tv : Nat → Value} {w w' : World} {σ : Sta} {p : Addr} (hb : w.heap.size ≤ w'.heap.size) (hp : cold V σ ρ tv w p) : cold V σ ρ tv w' p :=
  ⟨Nat.lt_of_lt_of_le hp.1 hb, hp.2⟩
theorem Fr.grow {vol0 : Addr → Prop} {w0 w w' : World} (h : Fr vol0 w0 w) (hb : Below w.heap.size w w') : Fr vol0 w0 w' :=
  h.trans (Fr.of_below (v0 := fun _ => False) hb) (fun _ _ e => e.elim)

theorem RR.newVar {V : Addr → Prop} {ρ : Nat → Nat} {tv : Nat → Value} {w : World} {σ : Sta} (h : RR V ρ tv w σ) {x : Nat} (hx : 2000 ≤ x) (hfresh : ∀ k f o, σ k = some f → ¬ IsRef f x o) {T : TypeId} {xs : List D} {vs : List Value} (hl : LIn (cold V σ ρ tv w) w xs vs) :
    RR V (fun y => if y = x then w.heap.size else ρ y) tv (w.alloc (objV T vs.toArray)) (upd σ [(x, .var T (xs.map .d))]) ∧
    ∀ p, vol (upd σ [(x, .var T (xs.map .d))]) (fun y => if y = x then w.heap.size else ρ y) tv p → vol σ ρ tv p ∨ p.block = w.heap.size := by
  have hbl : Below w.heap.size w (w.alloc (objV T vs.toArray)) := (Below.refl _ _).alloc (Nat.le_refl _) _
  have hex : ∀ k g, upd σ [(x, .var T (xs.map .d))] k = some g → ∀ b, ex (fun y => if y = x then w.heap.size else ρ y) tv k g = some b → (σ k = some g ∧ ex ρ tv k g = some b ∧ k ≠ x ∧ b < w.heap.size) ∨ (k = x ∧ b = w.heap.size) := by
    intro k g hk b hb
    rw [upd_one] at hk
    by_cases e : k = x
    · rw [if_pos e] at hk; cases hk
      refine .inr ⟨e, ?_⟩
      simp [ex, e] at hb
      exact hb.symm
    · rw [if_neg e] at hk
      have h2 : ex ρ tv k g = some b := by cases g <;> simp_all [ex]
      exact .inl ⟨hk, h2, e, (h.exb k g b hk h2).1⟩
  have hvol : ∀ p, vol (upd σ [(x, .var T (xs.map .d))]) (fun y => if y = x then w.heap.size else ρ y) tv p → vol σ ρ tv p ∨ p.block = w.heap.size := by
    rintro p ⟨k, g, h1, h2, h3⟩
    rcases hex k g h1 _ h2 with ⟨h4, h5, _⟩ | ⟨_, h4⟩
    · exact .inl ⟨k, g, h4, h5, h3⟩
    · exact .inr h4
  have hcold : ∀ p, cold V σ ρ tv w p → cold V (upd σ [(x, .var T (xs.map .d))]) (fun y => if y = x then w.heap.size else ρ y) tv (w.alloc (objV T vs.toArray)) p := fun p hp =>
    ⟨Nat.lt_of_lt_of_le hp.1 hbl.size, hp.2.1, fun e => by
      rcases hvol p e with h1 | h1
      · exact hp.2.2 h1
      · have := hp.1; omega⟩
  refine ⟨h.to hbl.size (fun p hp => ⟨(hcold p hp).2.2, hbl.cell hp.1⟩) (fun k g hk => ?_) (fun k g k' g' b h1 h2 h3 h4 => ?_) (fun k g b h1 h2 => ?_), hvol⟩
  · rw [upd_one] at hk
    by_cases e : k = x
    · rw [if_pos e] at hk
      cases hk
      refine .inr ⟨vs, ?_, CIn.ofL (hl.mono hcold (fun p hp => hbl.cell hp.1))⟩
      simp only [e, if_true]
      exact heap_alloc_new w _
    · rw [if_neg e] at hk
      exact .inl ⟨hk, h.same hk rfl (fun _ _ => rfl) (fun _ _ _ => if_neg e) (fun y o hy => if_neg (fun (e2 : y = x) => hfresh k g o hk (by rw [← e2]; exact hy))) (fun b hb => hbl.block b (h.exb k g b hk hb).1)⟩
  · rcases hex _ _ h1 _ h3 with ⟨a1, a2, _, a3⟩ | ⟨a1, a2⟩ <;> rcases hex _ _ h2 _ h4 with ⟨b1, b2, _, b3⟩ | ⟨b1, b2⟩
    · exact h.dist _ _ _ _ _ a1 b1 a2 b2
    · omega
    · omega
    · rw [a1, b1]
  · rcases hex _ _ h1 _ h2 with ⟨a1, a2, _, a3⟩ | ⟨a1, a2⟩
    · exact ⟨by simp; omega, (h.exb _ _ _ a1 a2).2⟩
    · exact ⟨by simp; omega, fun p hp e => by have := h.vb p e; omega⟩

theorem frozen_row {w : World} {b : Nat} {vs : Array Value} {T : TypeId} (h : w.heap[b]? = some (.cells vs T (0, 0))) (o : Nat) : w.frozen? ⟨b, o, none⟩ = false := by
  simp [World.frozen?, h]
theorem setCells_row (b : Nat) (T : TypeId) : ∀ (us : List Value) (o : Nat) (w : World) (vs : List Value), w.heap[b]? = some (.cells vs.toArray T (0, 0)) → o + us.length ≤ vs.length →
    (w.setCells b o us).heap[b]? = some (.cells (vs.take o ++ us ++ vs.drop (o + us.length)).toArray T (0, 0))
  | [], o, w, vs, h, _ => by simp [World.setCells, h]
  | u :: us, o, w, vs, h, hl => by
    simp only [List.length_cons] at hl
    have h1 : (w.setCell ⟨b, o, none⟩ u).heap[b]? = some (.cells (vs.set o u).toArray T (0, 0)) := by
      have := heap_setCell_same w b o vs.toArray T u h
      simpa using this
    rw [World.setCells, setCells_row b T us (o + 1) _ (vs.set o u) h1 (by simp; omega)]
    congr 3
    have e1 : (vs.set o u).take (o + 1) = vs.take o ++ [u] := by
      rw [List.take_succ_eq_append_getElem (by simp; omega)]
      simp [List.take_set_of_le]
    have e2 : (vs.set o u).drop (o + 1 + us.length) = vs.drop (o + (us.length + 1)) := by
      rw [List.drop_set_of_lt (by omega), show o + 1 + us.length = o + (us.length + 1) by omega]
    rw [e1, e2]
    simp
theorem setCells_other (b : Nat) : ∀ (us : List Value) (o : Nat) (w : World) (k : Nat), k ≠ b → (w.setCells b o us).heap[k]? = w.heap[k]?
  | [], _, _, _, _ => rfl
  | u :: us, o, w, k, h => by rw [World.setCells, setCells_other b us _ _ k h, Below.heap_setCell _ _ _ _ h]
theorem setCells_size (b : Nat) : ∀ (us : List Value) (o : Nat) (w : World), (w.setCells b o us).heap.size = w.heap.size
  | [], _, _ => rfl
  | u :: us, o, w => by rw [World.setCells, setCells_size b us]; simp [World.setCell]
theorem setCells_keep (b : Nat) : ∀ (us : List Value) (o : Nat) (w : World), (w.setCells b o us).os = w.os ∧ (w.setCells b o us).tape = w.tape ∧ (w.setCells b o us).output = w.output
  | [], _, _ => ⟨rfl, rfl, rfl⟩
  | u :: us, o, w => by rw [World.setCells]; exact setCells_keep b us (o + 1) (w.setCell ⟨b, o, none⟩ u)

theorem RR.write {V : Addr → Prop} {ρ : Nat → Nat} {tv : Nat → Value} {w w' : World} {σ : Sta} (h : RR V ρ tv w σ) {x : Nat} {T : TypeId} {xs ys : List C} (hx : σ x = some (.var T xs)) (hsz : w'.heap.size = w.heap.size)
    (hoth : ∀ k, k ≠ ρ x → w'.heap[k]? = w.heap[k]?) {us : List Value} (hnew : w'.heap[ρ x]? = some (objV T us.toArray)) (hc : CIn (cold V σ ρ tv w) w tv ys us) :
    RR V ρ tv w' (upd σ [(x, .var T ys)]) ∧ ∀ p, vol (upd σ [(x, .var T ys)]) ρ tv p → vol σ ρ tv p := by
  have hex : ∀ k g, upd σ [(x, .var T ys)] k = some g → ∀ b, ex ρ tv k g = some b → ∃ g', σ k = some g' ∧ ex ρ tv k g' = some b ∧ lo g' = lo g := by
    intro k g hk b hb
    rw [upd_one] at hk
    by_cases e : k = x
    · rw [if_pos e] at hk; cases hk
      exact ⟨.var T xs, by rw [e]; exact hx, hb, rfl⟩
    · rw [if_neg e] at hk
      exact ⟨g, hk, hb, rfl⟩
  have hvol : ∀ p, vol (upd σ [(x, .var T ys)]) ρ tv p → vol σ ρ tv p := by
    rintro p ⟨k, g, h1, h2, h3⟩
    obtain ⟨g', h4, h5, h6⟩ := hex k g h1 _ h2
    exact ⟨k, g', h4, h5, by rw [h6]; exact h3⟩
  have hne : ∀ p, cold V σ ρ tv w p → p.block ≠ ρ x := fun p hp e => hp.2.2 ⟨x, _, hx, by rw [e]; rfl, Nat.zero_le _⟩
  have hcell : ∀ p, cold V σ ρ tv w p → w'.cell? p = w.cell? p := fun p hp => World.cell?_of_block (hoth _ (hne p hp))
  have hcold : ∀ p, cold V σ ρ tv w p → cold V (upd σ [(x, .var T ys)]) ρ tv w' p := fun p hp => ⟨by rw [hsz]; exact hp.1, hp.2.1, fun e => hp.2.2 (hvol p e)⟩
  refine ⟨h.to (Nat.le_of_eq hsz.symm) (fun p hp => ⟨(hcold p hp).2.2, hcell p hp⟩) (fun k g hk => ?_) (fun k g k' g' b h1 h2 h3 h4 => ?_) (fun k g b h1 h2 => ?_), hvol⟩
  · rw [upd_one] at hk
    by_cases e : k = x
    · rw [if_pos e] at hk
      cases hk
      exact .inr ⟨us, by rw [e]; exact hnew, hc.mono hcold hcell (fun _ _ => rfl)⟩
    · rw [if_neg e] at hk
      exact .inl ⟨hk, h.same hk rfl (fun _ _ => rfl) (fun _ _ _ => rfl) (fun _ _ _ => rfl) (fun b hb => hoth b (fun e2 => e (h.dist k g x _ b hk hx hb (by rw [e2]; rfl))))⟩
  · obtain ⟨_, a1, a2, _⟩ := hex _ _ h1 _ h3
    obtain ⟨_, b1, b2, _⟩ := hex _ _ h2 _ h4
    exact h.dist _ _ _ _ _ a1 b1 a2 b2
  · obtain ⟨_, a1, a2, _⟩ := hex _ _ h1 _ h2
    rw [hsz]
    exact h.exb _ _ _ a1 a2

end Go.Proofs.YtlagglkpbnbmeaaGreatDoor

/- Shadows: what one operation does. -/
namespace Go.Proofs.YtlagglkpbnbmeaaGreatDoor
set_option linter.unusedVariables false
open Go Go.RowKit

def cst (v : Value) : Option F :=
  match v with
  | .agg cs => bif cs.all (·.oneCell') then some (.agg (cs.toList.map .lit)) else none
  | .tuple _ => none
  | v => some (.c (.lit v))
def opd (l : List (Nat × F)) : Operand → Option F
  | .tmp t => bif Nat.blt t 1000 then find l t else none
  | .const v => cst v
  | _ => none
def rdOf : Operand → List Nat
  | .tmp t => [t]
  | _ => []
def refB (x : Nat) : F → Bool
  | .ptr y _ => Nat.beq x y
  | .rel ks _ => ks.any fun y => Nat.beq x y
  | .var _ xs => xs.any fun | .gh g => Nat.beq x g | _ => false
  | _ => false
structure View (l : List (Nat × F)) (rd : List Nat) (S : Addr → Prop) (ρ : Nat → Nat) (tv : Nat → Value) (a : Act) (w : World) : Prop where
  ev : ∀ x f, opd l x = some f → (∀ k, k ∈ rdOf x → k ∈ rd) → FV S ρ w f (a.eval x) ∨ ∃ T xs, f = .var T xs
  vr : ∀ x T xs, find l x = some (.var T xs) → x ∈ rd → ∃ vs : List Value, w.heap[ρ x]? = some (objV T vs.toArray) ∧ CIn S w tv xs vs
theorem View.fv {l : List (Nat × F)} {rd : List Nat} {S : Addr → Prop} {ρ : Nat → Nat} {tv : Nat → Value} {a : Act} {w : World} (h : View l rd S ρ tv a w) {x : Operand} {f : F} (hx : opd l x = some f) (hr : ∀ k, k ∈ rdOf x → k ∈ rd) (hv : ∀ T xs, f ≠ .var T xs) : FV S ρ w f (a.eval x) := by
  rcases h.ev x f hx hr with h1 | ⟨T, xs, h1⟩
  · exact h1
  · exact absurd h1 (hv T xs)
theorem view_of {l : List (Nat × F)} {rd : List Nat} {σ : Sta} {V : Addr → Prop} {ρ : Nat → Nat} {tv : Nat → Value} {a : Act} {w : World} (hσ : ∀ k, k ∈ rd → σ k = find l k) (htv : ∀ t, t < 1000 → tv t = a.tmps.getD t undef) (h : RR V ρ tv w σ) :
    View l rd (cold V σ ρ tv w) ρ tv a w where
  ev x f hx hr := by
    cases x with
    | tmp t =>
      simp only [opd] at hx
      cases hb : Nat.blt t 1000 with
      | false => rw [hb] at hx; cases hx
      | true =>
        rw [hb] at hx
        have ht : t < 1000 := by
          exact Nat.le_of_ble_eq_true hb
        have := h.rel t f (by rw [hσ t (hr t (by simp [rdOf]))]; exact hx)
        have e : a.eval (.tmp t) = tv t := (htv t ht).symm
        rw [e]
        cases f with
        | var T xs => exact .inr ⟨T, xs, rfl⟩
        | ob p => exact .inl trivial
        | _ => exact .inl this
    | const v =>
      refine .inl ?_
      show FV _ _ _ f v
      simp only [opd, cst] at hx
      cases v with
      | agg cs =>
        cases hb : cs.all (·.oneCell') with
        | false => simp [hb] at hx
        | true =>
          simp only [hb, cond_true, Option.some.injEq] at hx
          subst hx
          refine ⟨cs.toList, by simp, LIn.of (by simp) (fun j d v h1 h2 => ?_)⟩
          rw [List.getElem?_map, h2] at h1
          simp at h1
          subst h1
          exact .lit v ((Array.all_eq_true_iff_forall_mem.1 hb) v (by
            have := List.mem_of_getElem? h2
            simpa using this))
      | tuple cs => cases hx
      | _ => cases hx; exact .lit _ rfl
    | global g => cases hx
    | func g => cases hx
  vr x T xs hx hr := h.rel x (.var T xs) (by rw [hσ x hr]; exact hx)

theorem refB_isRef {f : F} {x o : Nat} (h : IsRef f x o) : refB x f = true := by
  rcases h with h | ⟨ks, C, h, hx⟩
  · subst h; exact Nat.beq_refl x
  · subst h; exact List.any_eq_true.2 ⟨x, hx, Nat.beq_refl x⟩
abbrev FR (r : Option Nat) : Fence := { Fence.wide with round := r }
def uq (P : Program) (o : Oper) (a : Act) (next : Act → World → Prop) : Result Next → Prop
  | .ok (.value v) w' => next (a.put o.dst v) w'
  | .ok .skip w' => next (a.put o.dst undef) w'
  | .ok (.enter f args) w' => Calls P f args w' fun
      | .returned v, w'' => next (a.put o.dst v) w''
      | _, _ => False
  | .ok (.round l f tmps assign body) w' => RoundIn Fence.wide 0 P l f tmps assign body w' fun
      | .returned v, w'' => next (a.put o.dst v) w''
      | _, _ => False
  | _ => False
def wq (P : Program) (o : Oper) (a : Act) (w : World) (next : Act → World → Prop) : Prop := uq P o a next ((execOp a.eval o).run P w)
theorem uq_value {P : Program} {o : Oper} {a : Act} {next : Act → World → Prop} {v : Value} {w : World} : uq P o a next (.ok (.value v) w) = next (a.put o.dst v) w := rfl
theorem uq_skip {P : Program} {o : Oper} {a : Act} {next : Act → World → Prop} {w : World} : uq P o a next (.ok .skip w) = next (a.put o.dst undef) w := rfl
theorem uq_enter {P : Program} {o : Oper} {a : Act} {next : Act → World → Prop} {f : FuncId} {args : Array Value} {w : World} : uq P o a next (.ok (.enter f args) w) = Calls P f args w fun
      | .returned v, w'' => next (a.put o.dst v) w''
      | _, _ => False := rfl
theorem uq_round {P : Program} {o : Oper} {a : Act} {next : Act → World → Prop} {l : Nat} {f : FuncId} {tmps : Array Value} {assign body : Code} {w : World} : uq P o a next (.ok (.round l f tmps assign body) w) = RoundIn Fence.wide 0 P l f tmps assign body w fun
      | .returned v, w'' => next (a.put o.dst v) w''
      | _, _ => False := rfl
theorem wq_in {P : Program} {o : Oper} {a : Act} {w : World} {next : Act → World → Prop} {Q : Exit → Act → World → Prop} (r : Option Nat) (h : wq P o a w next) : o.wpIn (FR r) 0 P a w next Q := by
  refine ⟨fun _ _ => trivial, ?_⟩
  unfold wq at h
  have hd : ∀ c, o.op ≠ .defer c := fun c hc => by
    simp only [execOp, hc] at h
    rw [Sem.run_bind] at h
    cases hr : (resolve a.eval c o.type).run P w with
    | ok d w' => rw [hr] at h; exact h
    | halt x w' => rw [hr] at h; exact h
  show o.uponIn (FR r) 0 P a next Q ((o.semAt r a.eval).run P w)
  rw [Oper.semAt_eq r _ _ hd]
  generalize (execOp a.eval o).run P w = res at h
  cases res with
  | halt x w' => exact h.elim
  | ok n w' =>
    cases n with
    | value v => exact h
    | skip => exact h
    | enter f args =>
      refine ⟨fun hh => (by cases hh), ?_⟩
      have h1 : CallsIn Fence.wide 0 P f args w' _ := callsIn_wide.2 h
      refine CallsIn.mono (F := FR r) (n := 0) h1 (fun e w'' he => ?_)
      cases e with
      | returned v => exact he
      | panicked c => exact he.elim
      | outgrown => exact he.elim
    | round l f tmps assign body =>
      refine ⟨fun hh => (by cases hh), ?_⟩
      refine RoundIn.mono (F := FR r) (n := 0) h (fun e w'' he => ?_)
      cases e with
      | returned v => exact he
      | panicked c => exact he.elim
      | outgrown => exact he.elim
    | _ => exact h.elim

def Does (P : Program) (o : Oper) (rd : List Nat) (fresh : List (Nat × List Nat)) (l post : List (Nat × F)) : Prop :=
  ∀ (e : Env) (σ : Sta) (a : Act) (w : World) (next : Act → World → Prop) (Q : Exit → Act → World → Prop), e.n ≤ 1000 → (∀ d, o.dst = some d → d < e.n) → (∀ k, k ∈ rd → σ k = find l k) →
    (∀ q, q ∈ fresh → q.1 ∉ e.ins ∧ ∀ k f, k ∉ q.2 → σ k = some f → refB q.1 f = false) → R e σ a w → (∀ a' w', R e (upd σ post) a' w' → next a' w') → wq P o a w next

theorem Does.val {P : Program} {o : Oper} {rd : List Nat} {l : List (Nat × F)} {d : Nat} {f : F} (hd : o.dst = some d) (hp : Plain f)
    (h : ∀ S ρ tv a w, View l rd S ρ tv a w → ∃ v, (execOp a.eval o).run P w = .ok (.value v) w ∧ FV S ρ w f v) : Does P o rd [] l [(d, f)] := by
  intro e σ a w next Q hn hdn hσ _ hR hnext
  obtain ⟨hdf, hsz, hfr, ρ, tv, htv, hin, hvz, hrr⟩ := hR
  obtain ⟨v, hrun, hf⟩ := h _ ρ tv a w (view_of hσ htv hrr)
  unfold wq
  rw [hrun, uq_value, hd]
  exact hnext _ _ (R.put hdf hsz hfr htv hin hvz hrr (hdn d hd) hn hp hf)

section
variable {P : Program} {o : Oper} {l : List (Nat × F)} {d : Nat}
theorem lit_val {S : Addr → Prop} {ρ : Nat → Nat} {w : World} {x v : Value} (h : FV S ρ w (.c (.lit x)) v) : v = x := by cases h; rfl

theorem r_move {x : Operand} {f : F} (ho : o.op = .move x) (hd : o.dst = some d) (hx : opd l x = some f) (hp : Plain f) : Does P o (rdOf x) [] l [(d, f)] :=
  Does.val hd hp fun S ρ tv a w hv => ⟨a.eval x, by unfold execOp; rw [ho]; rfl, hv.fv hx (fun _ h => h) (by intro T xs e; rw [e] at hp; exact hp)⟩
theorem r_assign {x : Operand} {f : F} (ho : o.op = .assign x) (hd : o.dst = some d) (hx : opd l x = some f) (hp : Plain f) : Does P o (rdOf x) [] l [(d, f)] :=
  Does.val hd hp fun S ρ tv a w hv => ⟨a.eval x, by unfold execOp; rw [ho]; rfl, hv.fv hx (fun _ h => h) (by intro T xs e; rw [e] at hp; exact hp)⟩
theorem r_bin {op : BinOp} {T T' : TypeId} {x y : Operand} {u v r : Value} (ho : o.op = .binOp op T x y T') (hd : o.dst = some d) (hx : opd l x = some (.c (.lit u))) (hy : opd l y = some (.c (.lit v)))
    (h1 : r.oneCell' = true) (h : ∀ w, (do eqGuard op T x y u v; binOp op T u v : Sem Value).run P w = .ok r w) : Does P o (rdOf x ++ rdOf y) [] l [(d, .c (.lit r))] :=
  Does.val hd trivial fun S ρ tv a w hv => ⟨r, by
    have e1 := lit_val (hv.fv hx (fun _ h => List.mem_append_left _ h) (by intro T xs e; cases e))
    have e2 := lit_val (hv.fv hy (fun _ h => List.mem_append_right _ h) (by intro T xs e; cases e))
    unfold execOp
    rw [ho]
    show Sem.run P (do let v ← (do eqGuard op T x y (a.eval x) (a.eval y); binOp op T (a.eval x) (a.eval y)); pure (Next.value v)) w = _
    rw [e1, e2, Sem.run_bind, h w]
    rfl, .lit r h1⟩
theorem r_un {x : Operand} {u r : Value} (k : Value → Sem Value) (ho : ∀ ev, execOp ev o = (do pure (.value (← k (ev x))) : Sem Next)) (hd : o.dst = some d) (hx : opd l x = some (.c (.lit u)))
    (h1 : r.oneCell' = true) (h : ∀ w, (k u).run P w = .ok r w) : Does P o (rdOf x) [] l [(d, .c (.lit r))] :=
  Does.val hd trivial fun S ρ tv a w hv => ⟨r, by
    have e1 := lit_val (hv.fv hx (fun _ h => h) (by intro T xs e; cases e))
    rw [ho, e1, Sem.run_bind, h w]
    rfl, .lit r h1⟩

theorem r_eqI {T T' : TypeId} {x y : Operand} {k : IntKind} {i j : Int} (ho : o.op = .binOp .eql T x y T') (hd : o.dst = some d) (hx : opd l x = some (.c (.lit (.int k i)))) (hy : opd l y = some (.c (.lit (.int k j)))) :
    Does P o (rdOf x ++ rdOf y) [] l [(d, .c (.lit (.bool (decide (i = j)))))] :=
  r_bin ho hd hx hy rfl fun w => by simp [eqGuard, binOp, Op.intCmp]; rfl
theorem r_neI {T T' : TypeId} {x y : Operand} {k : IntKind} {i j : Int} (ho : o.op = .binOp .neq T x y T') (hd : o.dst = some d) (hx : opd l x = some (.c (.lit (.int k i)))) (hy : opd l y = some (.c (.lit (.int k j)))) :
    Does P o (rdOf x ++ rdOf y) [] l [(d, .c (.lit (.bool (!decide (i = j)))))] :=
  r_bin ho hd hx hy rfl fun w => by simp [eqGuard, binOp, Op.intCmp]; rfl
theorem r_ltI {T T' : TypeId} {x y : Operand} {k : IntKind} {i j : Int} (ho : o.op = .binOp .lss T x y T') (hd : o.dst = some d) (hx : opd l x = some (.c (.lit (.int k i)))) (hy : opd l y = some (.c (.lit (.int k j)))) :
    Does P o (rdOf x ++ rdOf y) [] l [(d, .c (.lit (.bool (decide (i < j)))))] :=
  r_bin ho hd hx hy rfl fun w => by simp [eqGuard, binOp, Op.intCmp]
theorem r_leI {T T' : TypeId} {x y : Operand} {k : IntKind} {i j : Int} (ho : o.op = .binOp .leq T x y T') (hd : o.dst = some d) (hx : opd l x = some (.c (.lit (.int k i)))) (hy : opd l y = some (.c (.lit (.int k j)))) :
    Does P o (rdOf x ++ rdOf y) [] l [(d, .c (.lit (.bool (decide (i ≤ j)))))] :=
  r_bin ho hd hx hy rfl fun w => by simp [eqGuard, binOp, Op.intCmp]
theorem r_gtI {T T' : TypeId} {x y : Operand} {k : IntKind} {i j : Int} (ho : o.op = .binOp .gtr T x y T') (hd : o.dst = some d) (hx : opd l x = some (.c (.lit (.int k i)))) (hy : opd l y = some (.c (.lit (.int k j)))) :
    Does P o (rdOf x ++ rdOf y) [] l [(d, .c (.lit (.bool (decide (j < i)))))] :=
  r_bin ho hd hx hy rfl fun w => by simp [eqGuard, binOp, Op.intCmp]
theorem r_geI {T T' : TypeId} {x y : Operand} {k : IntKind} {i j : Int} (ho : o.op = .binOp .geq T x y T') (hd : o.dst = some d) (hx : opd l x = some (.c (.lit (.int k i)))) (hy : opd l y = some (.c (.lit (.int k j)))) :
    Does P o (rdOf x ++ rdOf y) [] l [(d, .c (.lit (.bool (decide (j ≤ i)))))] :=
  r_bin ho hd hx hy rfl fun w => by simp [eqGuard, binOp, Op.intCmp]
theorem r_addI {T T' : TypeId} {x y : Operand} {i j : Int} (ho : o.op = .binOp .add T x y T') (hd : o.dst = some d) (hx : opd l x = some (.c (.lit (.int .i64 i)))) (hy : opd l y = some (.c (.lit (.int .i64 j))))
    (hb : -9223372036854775808 ≤ i + j ∧ i + j ≤ 9223372036854775807) : Does P o (rdOf x ++ rdOf y) [] l [(d, .c (.lit (.int .i64 (i + j))))] :=
  r_bin ho hd hx hy rfl fun w => by
    have := IntWalk.i64_in (i + j) hb
    simp [eqGuard, binOp, Op.intArith, this]
theorem r_subI {T T' : TypeId} {x y : Operand} {i j : Int} (ho : o.op = .binOp .sub T x y T') (hd : o.dst = some d) (hx : opd l x = some (.c (.lit (.int .i64 i)))) (hy : opd l y = some (.c (.lit (.int .i64 j))))
    (hb : -9223372036854775808 ≤ i - j ∧ i - j ≤ 9223372036854775807) : Does P o (rdOf x ++ rdOf y) [] l [(d, .c (.lit (.int .i64 (i - j))))] :=
  r_bin ho hd hx hy rfl fun w => by
    have := IntWalk.i64_in (i - j) hb
    simp [eqGuard, binOp, Op.intArith, this]
theorem r_eqS {T T' : TypeId} {x y : Operand} {s t : List UInt8} (ho : o.op = .binOp .eql T x y T') (hd : o.dst = some d) (hx : opd l x = some (.c (.lit (str s)))) (hy : opd l y = some (.c (.lit (str t)))) :
    Does P o (rdOf x ++ rdOf y) [] l [(d, .c (.lit (.bool (s == t))))] :=
  r_bin ho hd hx hy rfl fun w => by simp [eqGuard, binOp, Op.stringOp]
theorem r_neS {T T' : TypeId} {x y : Operand} {s t : List UInt8} (ho : o.op = .binOp .neq T x y T') (hd : o.dst = some d) (hx : opd l x = some (.c (.lit (str s)))) (hy : opd l y = some (.c (.lit (str t)))) :
    Does P o (rdOf x ++ rdOf y) [] l [(d, .c (.lit (.bool (!(s == t)))))] :=
  r_bin ho hd hx hy rfl fun w => by simp [eqGuard, binOp, Op.stringOp]
theorem r_not {T : TypeId} {x : Operand} {b : Bool} (ho : o.op = .unOp .not T x) (hd : o.dst = some d) (hx : opd l x = some (.c (.lit (.bool b)))) : Does P o (rdOf x) [] l [(d, .c (.lit (.bool (!b))))] :=
  r_un (fun v => Op.unary .not v) (fun ev => by unfold execOp; rw [ho]) hd hx rfl fun w => by simp [Op.unary]
theorem r_extract {x : Operand} {i : Nat} {xs : List E} {e : E} {f : F} (ho : o.op = .extract x i) (hd : o.dst = some d) (hx : opd l x = some (.tup xs)) (he : xs[i]? = some e) (hf : f = (match e with | .c d => .c d | .agg ds => .agg ds)) :
    Does P o (rdOf x) [] l [(d, f)] :=
  Does.val hd (by subst hf; cases e <;> trivial) fun S ρ tv a w hv => by
    obtain ⟨vs, h1, h2⟩ := hv.fv hx (fun _ h => h) (by intro T xs e; cases e)
    obtain ⟨v, h3, h4⟩ := h2.get i e he
    refine ⟨v, ?_, ?_⟩
    · unfold execOp
      rw [ho]
      simp only [h1, Instr.extract, List.getElem?_toArray, h3, Sem.run_bind]
      rfl
    · subst hf
      cases e <;> exact h4
theorem r_nilCheck {x : Operand} {y n : Nat} (ho : o.op = .nilCheck x) (hd : o.dst = some d) (hx : opd l x = some (.ptr y n)) (hm : Nat.blt n mapT = true := by exact rfl) : Does P o (rdOf x) [] l [(d, .ptr y n)] :=
  Does.val hd trivial fun S ρ tv a w hv => by
    have h1 := hv.fv hx (fun _ h => h) (by intro T xs e; cases e)
    refine ⟨_, ?_, h1⟩
    have h2 : a.eval x = .pointer (some ⟨ρ y, n, none⟩) := Eq.trans h1 (ptrV_ptr hm)
    simp only [execOp, ho, h2]
    rfl
end

end Go.Proofs.YtlagglkpbnbmeaaGreatDoor

/- Shadows: loads, stores, new variables, new rows. -/
namespace Go.Proofs.YtlagglkpbnbmeaaGreatDoor
set_option linter.unusedVariables false
open Go Go.RowKit

def plainT (P : Program) (T : TypeId) : Bool :=
  match P.underlying T with
  | some (.struct _) | some (.array _ _) | none => false
  | _ => true
def aggN (P : Program) (T : TypeId) : Option Nat :=
  match P.underlying T with
  | some (.struct _) | some (.array _ _) => (P.info? T).map (·.size)
  | _ => none
def sizeT (P : Program) (T : TypeId) : Option Nat := (P.info? T).map (·.size)

theorem run_sizeOf' {P : Program} {T : TypeId} {n : Nat} (h : sizeT P T = some n) (w : World) : (sizeOf T).run P w = .ok n w := by
  unfold sizeT at h
  cases hi : P.info? T with
  | none => simp [hi] at h
  | some i =>
    simp [hi] at h
    simp [sizeOf, typeInfo, hi, h]
theorem run_isAgg_no {P : Program} {T : TypeId} (h : plainT P T = true) (w : World) : (isAgg T).run P w = .ok false w := by
  unfold plainT at h
  cases hu : P.underlying T with
  | none => simp [hu] at h
  | some d =>
    refine run_isAgg_plain hu ?_ w
    cases d <;> simp_all
theorem run_isAgg_yes {P : Program} {T : TypeId} {n : Nat} (h : aggN P T = some n) (w : World) : (isAgg T).run P w = .ok true w ∧ sizeT P T = some n := by
  unfold aggN at h
  cases hu : P.underlying T with
  | none => simp [hu] at h
  | some d =>
    unfold isAgg sizeT
    rw [Sem.run_bind, run_underlying hu w]
    cases d <;> simp_all
theorem run_load_plain {P : Program} {T : TypeId} (h : plainT P T = true) {w : World} {p : Addr} {v : Value} (hc : w.cell? p = some v) : (Instr.loadAt T (.pointer (some p))).run P w = .ok v w := by
  simp only [Instr.loadAt, Instr.sureAddr, Sem.run_bind, Sem.run_pure, Result.andThen_ok, loadVar, run_isAgg_no h w, Bool.false_eq_true, if_false]
  simp [load, Sem.run, hc]
theorem run_load_agg {P : Program} {T : TypeId} {n : Nat} (h : aggN P T = some n) {w : World} {p : Addr} {vs : List Value} (hn : vs.length = n) (hc : ∀ j v, vs[j]? = some v → w.cell? (p.add j) = some v) :
    (Instr.loadAt T (.pointer (some p))).run P w = .ok (.agg vs.toArray) w := by
  obtain ⟨h1, h2⟩ := run_isAgg_yes h w
  have h3 := run_loadCells_list (P := P) w p vs hc
  simp only [Instr.loadAt, Instr.sureAddr, Sem.run_bind, Sem.run_pure, Result.andThen_ok, loadVar, h1, if_true, run_sizeOf' h2 w, ← hn, h3]
theorem row_cell {w : World} {b : Nat} {vs : List Value} {T : TypeId} (h : w.heap[b]? = some (.cells vs.toArray T (0, 0))) (o : Nat) : w.cell? ⟨b, o, none⟩ = vs[o]? := by
  rw [cell_of_row w b o vs.toArray T (0, 0) h]
  simp
theorem addr_add (b o j : Nat) : (⟨b, o, none⟩ : Addr).add j = ⟨b, o + j, none⟩ := by unfold Addr.add; split <;> simp_all
theorem run_storeAt {P : Program} {T T0 : TypeId} {w : World} {b o : Nat} {vs : List Value} {v : Value} (hb : w.heap[b]? = some (.cells vs.toArray T0 (0, 0))) (hi : sizeT P T = some v.cells.size) (ho : o + v.cells.size ≤ vs.length)
    (h1 : ∀ u, u ∈ v.cells.toList → u.oneCell' = true) : (Instr.storeAt T (.pointer (some ⟨b, o, none⟩)) v).run P w = .ok () (w.setCells b o v.cells.toList) := by
  have := run_storeCells_cells (P := P) b o v.cells.toList 0 w (fun j hj => by
    rw [row_cell hb, Nat.add_zero, List.getElem?_eq_getElem (by simp at hj; omega)]; rfl) (fun j _ => frozen_row hb _) h1
  rw [Nat.add_zero] at this
  simp only [Instr.storeAt, Instr.sureAddr, Sem.run_bind, Sem.run_pure, Result.andThen_ok, storeVar, run_sizeOf' hi w, ne_eq, not_true, if_false]
  exact this

theorem CIn.append {S : Addr → Prop} {w : World} {tv : Nat → Value} : ∀ {ds es : List C} {vs us : List Value}, CIn S w tv ds vs → CIn S w tv es us → CIn S w tv (ds ++ es) (vs ++ us)
  | [], _, [], _, _, h => h
  | .d _ :: _, _, _ :: _, _, h, h2 => ⟨h.1, CIn.append h.2 h2⟩
  | .gh _ :: _, _, _ :: _, _, h, h2 => ⟨h.1, CIn.append h.2 h2⟩
  | [], _, _ :: _, _, h, _ => h.elim
  | .d _ :: _, _, [], _, h, _ => h.elim
  | .gh _ :: _, _, [], _, h, _ => h.elim
theorem CIn.drop {S : Addr → Prop} {w : World} {tv : Nat → Value} : ∀ (n : Nat) {ds : List C} {vs : List Value}, CIn S w tv ds vs → CIn S w tv (ds.drop n) (vs.drop n)
  | 0, _, _, h => h
  | _ + 1, [], [], _ => trivial
  | n + 1, .d _ :: _, _ :: _, h => CIn.drop n h.2
  | n + 1, .gh _ :: _, _ :: _, h => CIn.drop n h.2
  | _ + 1, [], _ :: _, h => h.elim
  | _ + 1, .d _ :: _, [], h => h.elim
  | _ + 1, .gh _ :: _, [], h => h.elim
theorem CIn.take {S : Addr → Prop} {w : World} {tv : Nat → Value} : ∀ (n : Nat) {ds : List C} {vs : List Value}, CIn S w tv ds vs → CIn S w tv (ds.take n) (vs.take n)
  | 0, _, _, _ => trivial
  | _ + 1, [], [], _ => trivial
  | n + 1, .d _ :: _, _ :: _, h => ⟨h.1, CIn.take n h.2⟩
  | n + 1, .gh _ :: _, _ :: _, h => ⟨h.1, CIn.take n h.2⟩
  | _ + 1, [], _ :: _, h => h.elim
  | _ + 1, .d _ :: _, [], h => h.elim
  | _ + 1, .gh _ :: _, [], h => h.elim
theorem CIn.plain {S : Addr → Prop} {w : World} {tv : Nat → Value} : ∀ {ds : List D} {vs : List Value}, CIn S w tv (ds.map .d) vs → LIn S w ds vs
  | [], [], _ => trivial
  | _ :: _, _ :: _, h => ⟨h.1, CIn.plain h.2⟩
  | [], _ :: _, h => h.elim
  | _ :: _, [], h => h.elim
def splice (xs : List C) (o : Nat) (ds : List C) : List C := xs.take o ++ ds ++ xs.drop (o + ds.length)
theorem CIn.splice {S : Addr → Prop} {w : World} {tv : Nat → Value} {xs ds : List C} {vs us : List Value} (h : CIn S w tv xs vs) (h2 : CIn S w tv ds us) (o : Nat) :
    CIn S w tv (splice xs o ds) (vs.take o ++ us ++ vs.drop (o + us.length)) := by
  unfold Go.Proofs.YtlagglkpbnbmeaaGreatDoor.splice
  rw [← h2.len]
  exact ((h.take o).append h2).append (h.drop _)

def plainCs : List C → Option (List D)
  | [] => some []
  | .d d :: r => (plainCs r).map (d :: ·)
  | .gh _ :: _ => none
theorem plainCs_ok : ∀ {xs : List C} {ds : List D}, plainCs xs = some ds → xs = ds.map .d
  | [], ds, h => by cases h; rfl
  | .d d :: r, ds, h => by
    rw [plainCs, Option.map_eq_some_iff] at h
    obtain ⟨ds', h1, rfl⟩ := h
    rw [plainCs_ok h1]; rfl
  | .gh _ :: _, _, h => by cases h

section
variable {P : Program} {o : Oper} {l : List (Nat × F)} {d : Nat}

theorem r_load {T T0 : TypeId} {x : Operand} {y n : Nat} {xs : List C} {u : D} (ho : o.op = .load T x) (hd : o.dst = some d) (hT : plainT P T = true) (hx : opd l x = some (.ptr y n)) (hy : find l y = some (.var T0 xs)) (hu : xs[n]? = some (.d u)) (hmm : (Nat.blt n mapT && !Nat.beq T0 mapT) = true := by exact rfl) :
    Does P o (rdOf x ++ [y]) [] l [(d, .c u)] :=
  Does.val hd trivial fun S ρ tv a w hv => by
    have h1 : a.eval x = .pointer (some ⟨ρ y, n, none⟩) := Eq.trans (hv.fv hx (fun _ h => List.mem_append_left _ h) (by intro T xs e; cases e)) (ptrV_ptr (and_mapT hmm).1)
    obtain ⟨vs, h2, h3⟩ := hv.vr y _ _ hy (List.mem_append_right _ (by simp))
    rw [objV_row _ (and_mapT hmm).2] at h2
    obtain ⟨v, h4, h5⟩ := h3.get n _ hu
    refine ⟨v, ?_, h5.1⟩
    simp only [execOp, ho, h1, Sem.run_bind, run_load_plain hT ((row_cell h2 n).trans h4)]
    rfl
theorem r_loadA {T T0 : TypeId} {x : Operand} {y n m : Nat} {xs : List C} {us : List D} (ho : o.op = .load T x) (hd : o.dst = some d) (hT : aggN P T = some m) (hx : opd l x = some (.ptr y n)) (hy : find l y = some (.var T0 xs)) (hu : plainCs ((xs.drop n).take m) = some us)
    (hm : us.length = m) (hmm : (Nat.blt n mapT && !Nat.beq T0 mapT) = true := by exact rfl) : Does P o (rdOf x ++ [y]) [] l [(d, .agg us)] :=
  Does.val hd trivial fun S ρ tv a w hv => by
    have h1 : a.eval x = .pointer (some ⟨ρ y, n, none⟩) := Eq.trans (hv.fv hx (fun _ h => List.mem_append_left _ h) (by intro T xs e; cases e)) (ptrV_ptr (and_mapT hmm).1)
    obtain ⟨vs, h2, h3⟩ := hv.vr y _ _ hy (List.mem_append_right _ (by simp))
    rw [objV_row _ (and_mapT hmm).2] at h2
    have h4 := (h3.drop n).take m
    rw [plainCs_ok hu] at h4
    have h5 := h4.plain
    refine ⟨.agg ((vs.drop n).take m).toArray, ?_, _, rfl, h5⟩
    simp only [execOp, ho, h1, Sem.run_bind]
    rw [run_load_agg hT (by rw [← h5.len, hm]) (fun j v hj => by
      rw [addr_add, row_cell h2]
      rw [List.getElem?_take] at hj
      split at hj
      · rw [List.getElem?_drop] at hj; exact hj
      · cases hj)]
    rfl
theorem r_loadEl {T : TypeId} {x : Operand} {n : Nat} {row : List D} {u : D} (ho : o.op = .load T x) (hd : o.dst = some d) (hT : plainT P T = true) (hx : opd l x = some (.el row n)) (hu : row[n]? = some u) :
    Does P o (rdOf x) [] l [(d, .c u)] :=
  Does.val hd trivial fun S ρ tv a w hv => by
    obtain ⟨p, h1, h2⟩ := hv.fv hx (fun _ h => h) (by intro T xs e; cases e)
    obtain ⟨_, v, h4, h5⟩ := h2 0 u hu
    refine ⟨v, ?_, h5⟩
    simp only [execOp, ho, h1, Sem.run_bind, run_load_plain hT (show w.cell? p = some v from h4)]
    rfl
theorem r_loadElA {T : TypeId} {x : Operand} {n m : Nat} {row us : List D} (ho : o.op = .load T x) (hd : o.dst = some d) (hT : aggN P T = some m) (hx : opd l x = some (.el row n)) (hu : (row.drop n).take m = us) (hm : us.length = m) :
    Does P o (rdOf x) [] l [(d, .agg us)] :=
  Does.val hd trivial fun S ρ tv a w hv => by
    obtain ⟨p, h1, h2⟩ := hv.fv hx (fun _ h => h) (by intro T xs e; cases e)
    have hj : ∀ j u, us[j]? = some u → ∃ v, w.cell? (p.add j) = some v ∧ DIn S w u v := by
      intro j u hj
      rw [← hu, List.getElem?_take] at hj
      split at hj
      · rw [List.getElem?_drop] at hj
        obtain ⟨_, v, h4, h5⟩ := h2 j u hj
        exact ⟨v, h4, h5⟩
      · cases hj
    have hvs : ∃ vs : List Value, LIn S w us vs ∧ ∀ j v, vs[j]? = some v → w.cell? (p.add j) = some v := by
      clear hu hm
      have : ∀ (us : List D) (k : Nat), (∀ j u, us[j]? = some u → ∃ v, w.cell? (p.add (k + j)) = some v ∧ DIn S w u v) → ∃ vs : List Value, LIn S w us vs ∧ ∀ j v, vs[j]? = some v → w.cell? (p.add (k + j)) = some v := by
        intro us
        induction us with
        | nil => exact fun k _ => ⟨[], trivial, fun j v h => by simp at h⟩
        | cons u us ih =>
          intro k h
          obtain ⟨v, h1, h2⟩ := h 0 u rfl
          obtain ⟨vs, h3, h4⟩ := ih (k + 1) (fun j u hj => by
            obtain ⟨v, h5, h6⟩ := h (j + 1) u (by simpa using hj)
            exact ⟨v, by rw [← h5, show k + 1 + j = k + (j + 1) by omega], h6⟩)
          refine ⟨v :: vs, ⟨h2, h3⟩, fun j v' hj => ?_⟩
          cases j with
          | zero => simp at hj; subst hj; exact h1
          | succ j => rw [← h4 j v' (by simpa using hj), show k + 1 + j = k + (j + 1) by omega]
      obtain ⟨vs, h3, h4⟩ := this us 0 (fun j u h => by rw [Nat.zero_add]; exact hj j u h)
      exact ⟨vs, h3, fun j v h => by rw [← h4 j v h, Nat.zero_add]⟩
    obtain ⟨vs, h3, h4⟩ := hvs
    refine ⟨.agg vs.toArray, ?_, vs, rfl, h3⟩
    simp only [execOp, ho, h1, Sem.run_bind]
    rw [run_load_agg hT (by rw [← h3.len, hm]) h4]
    rfl

def fieldAt? (P : Program) (T : TypeId) (i : Nat) : Option (Nat × Nat) :=
  match P.underlying T with
  | some (.struct fs) => (fs[i]?).bind fun f => (sizeT P f.type).bind fun n => bif Nat.beq n 0 then none else some (f.offset, n)
  | _ => none
theorem run_fieldAt {P : Program} {T : TypeId} {i off n : Nat} (h : fieldAt? P T i = some (off, n)) (p : Addr) (w : World) : (Instr.fieldAt T (.pointer (some p)) i).run P w = .ok (.pointer (some (p.add off))) w := by
  unfold fieldAt? at h
  cases hu : P.underlying T with
  | none => simp [hu] at h
  | some dd =>
    rw [hu] at h
    cases dd with
    | struct fs =>
      simp only [Option.bind_eq_some_iff] at h
      obtain ⟨f, hf, m, hm, h⟩ := h
      cases hz : Nat.beq m 0 with
      | true => simp [hz] at h
      | false =>
        simp only [hz, cond_false, Option.some.injEq, Prod.mk.injEq] at h
        obtain ⟨rfl, rfl⟩ := h
        have hne : m ≠ 0 := by intro e; rw [e] at hz; cases hz
        simp only [Instr.fieldAt, Sem.run_bind, run_underlying hu w, Result.andThen_ok, hf, Instr.sureAddr, Sem.run_pure, fieldPlace, run_sizeOf' hm w, if_neg hne]
    | _ => simp at h
theorem r_fieldAddr {T : TypeId} {x : Operand} {y n i off m : Nat} (ho : o.op = .fieldAddr T x i) (hd : o.dst = some d) (hT : fieldAt? P T i = some (off, m)) (hx : opd l x = some (.ptr y n)) (hmm : (Nat.blt n mapT && Nat.blt (n + off) mapT) = true := by exact rfl) : Does P o (rdOf x) [] l [(d, .ptr y (n + off))] :=
  Does.val hd trivial fun S ρ tv a w hv => by
    rw [Bool.and_eq_true] at hmm
    have h1 : a.eval x = .pointer (some ⟨ρ y, n, none⟩) := Eq.trans (hv.fv hx (fun _ h => h) (by intro T xs e; cases e)) (ptrV_ptr hmm.1)
    refine ⟨_, ?_, (ptrV_ptr hmm.2).symm⟩
    simp only [execOp, ho, h1, Sem.run_bind, run_fieldAt hT, addr_add]
    rfl
theorem add_add' (p : Addr) (i j : Nat) : (p.add i).add j = p.add (i + j) := add_of_add p i j
theorem r_fieldAddrEl {T : TypeId} {x : Operand} {n i off m : Nat} {row : List D} (ho : o.op = .fieldAddr T x i) (hd : o.dst = some d) (hT : fieldAt? P T i = some (off, m)) (hx : opd l x = some (.el row n)) : Does P o (rdOf x) [] l [(d, .el row (n + off))] :=
  Does.val hd trivial fun S ρ tv a w hv => by
    obtain ⟨p, h1, h2⟩ := hv.fv hx (fun _ h => h) (by intro T xs e; cases e)
    refine ⟨.pointer (some (p.add off)), ?_, p.add off, rfl, fun j u hj => ?_⟩
    · simp only [execOp, ho, h1, Sem.run_bind, run_fieldAt hT]
      rfl
    · rw [add_add']
      exact h2 (off + j) u (by rw [← Nat.add_assoc]; exact hj)
def elemOf? (P : Program) (T : TypeId) : Option (TypeId × Nat) :=
  match P.underlying T with
  | some (.slice e) => (sizeT P e).map fun n => (e, n)
  | _ => none
theorem elemOf?_some {P : Program} {T e : TypeId} {n : Nat} (h : elemOf? P T = some (e, n)) : P.underlying T = some (.slice e) ∧ sizeT P e = some n := by
  unfold elemOf? at h
  cases hu : P.underlying T with
  | none => simp [hu] at h
  | some dd =>
    rw [hu] at h
    cases dd with
    | slice e' =>
      simp only [Option.map_eq_some_iff] at h
      obtain ⟨m, hm, h⟩ := h
      cases h
      exact ⟨rfl, hm⟩
    | _ => simp at h
theorem r_indexAddr {T e : TypeId} {x i : Operand} {sz : Nat} {els : List (List D)} {k : IntKind} {n : Int} {row : List D} (ho : o.op = .indexAddr T x i) (hd : o.dst = some d) (hT : elemOf? P T = some (e, sz)) (hx : opd l x = some (.c (.sl sz els)))
    (hi : opd l i = some (.c (.lit (.int k n)))) (h0 : 0 ≤ n) (hr : els[n.toNat]? = some row) : Does P o (rdOf x ++ rdOf i) [] l [(d, .el row 0)] :=
  Does.val hd trivial fun S ρ tv a w hv => by
    obtain ⟨A, c, h1, hc, hne, hlen, h2⟩ := DIn.row (hv.fv hx (fun _ h => List.mem_append_left _ h) (by intro T xs e; cases e))
    have h3 := lit_val (hv.fv hi (fun _ h => List.mem_append_right _ h) (by intro T xs e; cases e))
    obtain ⟨hu, hs⟩ := elemOf?_some hT
    have hlt : n.toNat < els.length := by
      rcases Nat.lt_or_ge n.toNat els.length with h | h
      · exact h
      · rw [List.getElem?_eq_none h] at hr; cases hr
    have hlt' : 0 ≤ n ∧ n < (els.length : Int) := by omega
    have hrow : ∀ j u, row[j]? = some u → D.at els n.toNat j = some u := fun j u h => by rw [D.at, hr]; exact h
    cases A with
    | some ad =>
      refine ⟨.pointer (some (ad.add (n.toNat * sz))), ?_, _, rfl, fun j u hj => ?_⟩
      · simp only [execOp, ho, h1, h3, Instr.indexAt, asIntOf, Sem.run_bind, Sem.run_pure, Result.andThen_ok, run_underlying hu w, if_pos hlt', run_sizeOf' hs w]
      · rw [Nat.zero_add] at hj
        obtain ⟨ad', v, e1, h4, h5, h6⟩ := h2 _ _ _ (hrow j u hj)
        cases e1
        rw [add_add']
        exact ⟨h4, v, h5, h6⟩
    | none =>
      obtain ⟨ad, e1⟩ := hne (by omega)
      cases e1
end

end Go.Proofs.YtlagglkpbnbmeaaGreatDoor

/- Shadows: stores, new variables, new rows. -/
namespace Go.Proofs.YtlagglkpbnbmeaaGreatDoor
set_option linter.unusedVariables false
open Go Go.RowKit

theorem Fr.write {vol0 : Addr → Prop} {w0 w w' : World} (h : Fr vol0 w0 w) {b : Nat} (hos : w'.os = w.os ∧ w'.tape = w.tape ∧ w'.output = w.output) (hsz : w'.heap.size = w.heap.size) (hoth : ∀ k, k ≠ b → w'.heap[k]? = w.heap[k]?)
    (hv : b < w0.heap.size → ∀ p : Addr, p.block = b → vol0 p) : Fr vol0 w0 w' where
  os := hos.1.trans h.os
  tape := hos.2.1.trans h.tape
  output := hos.2.2.trans h.output
  size := by rw [hsz]; exact h.size
  cell p hp hn := by
    rw [← h.cell p hp hn]
    exact World.cell?_of_block (hoth _ (fun e => hn (hv (by omega) p e)))
  block k hk hn := by
    rw [← h.block k hk hn]
    refine hoth _ (fun e => ?_)
    exact hn ⟨k, 0, none⟩ rfl (hv (by omega) _ e)

inductive WkD : D → D → Prop
  | refl (x : D) : WkD x x
  | any (x : D) : WkD x .any
  | nil (sz : Nat) : WkD (.lit (.slice none 0 0)) (.sl sz [])
theorem WkD.ok {S : Addr → Prop} {w : World} {x y : D} {v : Value} (h : WkD x y) (hx : DIn S w x v) : DIn S w y v := by
  cases h with
  | refl => exact hx
  | any => exact .any v hx.one
  | nil sz => cases hx; exact DIn.nil _ _
def WkDs : List D → List D → Prop
  | [], [] => True
  | x :: xs, y :: ys => WkD x y ∧ WkDs xs ys
  | _, _ => False
theorem WkDs.ok {S : Addr → Prop} {w : World} : ∀ {xs ys : List D} {vs : List Value}, WkDs xs ys → LIn S w xs vs → LIn S w ys vs
  | [], [], [], _, _ => trivial
  | _ :: _, _ :: _, _ :: _, hw, hl => ⟨hw.1.ok hl.1, WkDs.ok hw.2 hl.2⟩
  | [], [], _ :: _, _, h => h.elim
  | _ :: _, _ :: _, [], _, h => h.elim
  | [], _ :: _, _, h, _ => h.elim
  | _ :: _, [], _, h, _ => h.elim

section
variable {P : Program} {o : Oper} {l : List (Nat × F)} {d : Nat}

theorem Does.write {rd : List Nat} {x : Nat} {T : TypeId} {xs ys : List C} (hd : o.dst = none) (hx : find l x = some (.var T xs)) (hTT : Nat.beq T mapT = false) (hrd : x ∈ rd)
    (h : ∀ S ρ tv a w vs, View l rd S ρ tv a w → w.heap[ρ x]? = some (.cells vs.toArray T (0, 0)) → CIn S w tv xs vs → ∃ n us, (execOp a.eval o).run P w = .ok .skip (w.setCells (ρ x) n us) ∧ n + us.length ≤ vs.length ∧ CIn S w tv ys (vs.take n ++ us ++ vs.drop (n + us.length))) :
    Does P o rd [] l [(x, .var T ys)] := by
  intro e σ a w next Q hn hdn hσ _ hR hnext
  obtain ⟨hdf, hsz, hfr, ρ, tv, htv, hin, hvz, hrr⟩ := hR
  have hxσ : σ x = some (.var T xs) := by rw [hσ x hrd]; exact hx
  obtain ⟨vs, hb, hc⟩ := hrr.rel x _ hxσ
  rw [objV_row _ hTT] at hb
  obtain ⟨n, us, hrun, hle, hc'⟩ := h _ ρ tv a w vs (view_of hσ htv hrr) hb hc
  unfold wq
  rw [hrun, uq_skip, hd]
  have hw := setCells_row (ρ x) T us n w vs hb hle
  rw [← objV_row _ hTT] at hw
  obtain ⟨h1, h2⟩ := hrr.write (w' := w.setCells (ρ x) n us) hxσ (setCells_size _ _ _ _) (fun k hk => setCells_other _ _ _ _ _ hk) hw hc'
  refine hnext _ _ ⟨hdf, hsz, hfr.write (b := ρ x) (setCells_keep _ _ _ _) (setCells_size _ _ _ _) (fun k hk => setCells_other _ _ _ _ _ hk) (fun hlt p hp => ?_), ρ, tv, htv, hin, fun p hp => hvz p (h2 p hp), h1⟩
  rcases hvz p ⟨x, _, hxσ, by rw [hp]; rfl, Nat.zero_le _⟩ with h3 | h3
  · exact h3
  · omega

theorem r_store {T T0 : TypeId} {x y : Operand} {v n : Nat} {xs : List C} {u : D} (ho : o.op = .store T x y) (hd : o.dst = none) (hT : sizeT P T = some 1) (hx : opd l x = some (.ptr v n)) (hv : find l v = some (.var T0 xs)) (hn : Nat.blt n xs.length = true) (hy : opd l y = some (.c u)) (hmm : (Nat.blt n mapT && !Nat.beq T0 mapT) = true := by exact rfl) :
    Does P o (v :: (rdOf x ++ rdOf y)) [] l [(v, .var T0 (splice xs n [.d u]))] :=
  Does.write hd hv (and_mapT hmm).2 (by simp) fun S ρ tv a w vs hview hb hc => by
    have hn : n < xs.length := Nat.le_of_ble_eq_true hn
    have h1 : a.eval x = .pointer (some ⟨ρ v, n, none⟩) := Eq.trans (hview.fv hx (fun _ h => List.mem_cons_of_mem _ (List.mem_append_left _ h)) (by intro T xs e; cases e)) (ptrV_ptr (and_mapT hmm).1)
    have h2 : DIn S w u (a.eval y) := hview.fv hy (fun _ h => List.mem_cons_of_mem _ (List.mem_append_right _ h)) (by intro T xs e; cases e)
    have hone := h2.one
    have hcl : (a.eval y).cells = #[a.eval y] := by revert hone; cases a.eval y <;> simp [Value.oneCell', Value.cells]
    have hlen := hc.len
    refine ⟨n, [a.eval y], ?_, by simp; omega, CIn.splice (ds := [.d u]) (us := [a.eval y]) hc ⟨h2, trivial⟩ n⟩
    have := run_storeAt (P := P) (T := T) (o := n) (v := a.eval y) hb (by rw [hcl]; exact hT) (by rw [hcl]; simp; omega) (by rw [hcl]; intro u hu; simp at hu; rw [hu]; exact hone)
    rw [hcl] at this
    simp only [execOp, ho, h1, Sem.run_bind, this]
    rfl
theorem r_storeA {T T0 : TypeId} {x y : Operand} {v n m : Nat} {xs : List C} {us : List D} (ho : o.op = .store T x y) (hd : o.dst = none) (hT : sizeT P T = some m) (hx : opd l x = some (.ptr v n)) (hv : find l v = some (.var T0 xs)) (hy : opd l y = some (.agg us)) (hm : us.length = m)
    (hn : Nat.ble (n + m) xs.length = true) (hmm : (Nat.blt n mapT && !Nat.beq T0 mapT) = true := by exact rfl) : Does P o (v :: (rdOf x ++ rdOf y)) [] l [(v, .var T0 (splice xs n (us.map .d)))] :=
  Does.write hd hv (and_mapT hmm).2 (by simp) fun S ρ tv a w vs hview hb hc => by
    have h1 : a.eval x = .pointer (some ⟨ρ v, n, none⟩) := Eq.trans (hview.fv hx (fun _ h => List.mem_cons_of_mem _ (List.mem_append_left _ h)) (by intro T xs e; cases e)) (ptrV_ptr (and_mapT hmm).1)
    have hn : n + m ≤ xs.length := Nat.le_of_ble_eq_true hn
    obtain ⟨ws, h2, h3⟩ := hview.fv hy (fun _ h => List.mem_cons_of_mem _ (List.mem_append_right _ h)) (by intro T xs e; cases e)
    have hlen := hc.len
    have hlw := h3.len
    refine ⟨n, ws, ?_, by omega, hc.splice (CIn.ofL h3) n⟩
    have := run_storeAt (P := P) (T := T) (o := n) (v := .agg ws.toArray) hb (by rw [hT]; simp [Value.cells]; omega) (by simp [Value.cells]; omega) (by intro u hu; exact h3.one u (by simpa [Value.cells] using hu))
    simp only [Value.cells] at this
    simp only [execOp, ho, h1, h2, Sem.run_bind, this]
    rfl

theorem Does.newVar {m : Nat} {rd : List Nat} {x : Nat} {T : TypeId} {xs : List D} (hd : o.dst = some d) (hx : 2000 ≤ x)
    (h : ∀ S ρ tv a w, View l rd S ρ tv a w → ∃ vs : List Value, (execOp a.eval o).run P w = .ok (.value (ptrV w.heap.size m)) (w.alloc (objV T vs.toArray)) ∧ LIn S w xs vs) :
    Does P o rd [(x, [])] l [(d, .ptr x m), (x, .var T (xs.map .d))] := by
  intro e σ a w next Q hn hdn hσ hfr hR hnext
  obtain ⟨hdf, hsz, hf, ρ, tv, htv, hin, hvz, hrr⟩ := hR
  obtain ⟨hxin, hfresh⟩ := hfr (x, []) (by simp)
  obtain ⟨vs, hrun, hl⟩ := h _ ρ tv a w (view_of hσ htv hrr)
  unfold wq
  rw [hrun, uq_value, hd]
  have hdn' := hdn d hd
  obtain ⟨h1, h2⟩ := hrr.newVar hx (T := T) (fun k f o' hk hr => by
    have := hfresh k _ (by simp) hk
    rw [refB_isRef hr] at this
    cases this) hl
  have hbl : Below w.heap.size w (w.alloc (objV T vs.toArray)) := (Below.refl _ _).alloc (Nat.le_refl _) _
  have e1 : upd σ [(d, .ptr x m), (x, .var T (xs.map .d))] = upd (upd σ [(x, .var T (xs.map .d))]) [(d, .ptr x m)] := by
    funext k
    unfold upd
    simp only [find_cons]
    by_cases hk : d = k <;> by_cases hk2 : x = k <;> simp [hk, hk2, find]
  rw [e1] at hnext
  refine hnext _ _ (R.put (ρ := fun y => if y = x then w.heap.size else ρ y) (tv := tv) hdf hsz (hf.grow hbl) htv (fun y hy => ?_) (fun p hp => ?_) h1 hdn' hn (f := .ptr x m) trivial (by
    show _ = ptrV (if x = x then w.heap.size else ρ x) m
    rw [if_pos rfl]))
  · rw [if_neg (fun e => hxin (by rw [← e]; exact hy))]; exact hin y hy
  · rcases h2 p hp with h3 | h3
    · exact hvz p h3
    · exact .inr (by rw [h3]; exact hf.size)

def zeroT (P : Program) (T : TypeId) : Option (List Value) := ((P.info? T).bind (·.zero)).bind fun z => bif z.cells.all (·.oneCell') then some z.cells.toList else none
theorem zeroT_some {P : Program} {T : TypeId} {zs : List Value} (h : zeroT P T = some zs) : ∃ z, (∀ w : World, (zeroValue T).run P w = .ok z w) ∧ z.cells = zs.toArray ∧ ∀ v, v ∈ zs → v.oneCell' = true := by
  unfold zeroT at h
  cases hi : P.info? T with
  | none => simp [hi] at h
  | some i =>
    cases hz : i.zero with
    | none => simp [hi, hz] at h
    | some z =>
      simp only [hi, Option.bind_some, hz] at h
      cases hb : z.cells.all (·.oneCell') with
      | false => rw [hb] at h; cases h
      | true =>
        rw [hb] at h
        cases h
        exact ⟨z, fun w => by simp [zeroValue, typeInfo, hi, hz], by simp, fun v hv => (Array.all_eq_true_iff_forall_mem.1 hb) v (by simpa using hv)⟩
theorem LIn.lits {S : Addr → Prop} {w : World} {vs : List Value} (h : ∀ v, v ∈ vs → v.oneCell' = true) : LIn S w (vs.map .lit) vs :=
  LIn.of (by simp) fun j d v h1 h2 => by
    rw [List.getElem?_map, h2] at h1
    simp at h1
    subst h1
    exact .lit v (h v (List.mem_of_getElem? h2))
theorem r_alloc {T : TypeId} {x : Nat} {zs : List Value} (ds : List D) (ho : o.op = .alloc T) (hd : o.dst = some d) (hx : (Nat.ble 2000 x && !Nat.beq T mapT) = true) (hz : zeroT P T = some zs) (hw : WkDs (zs.map .lit) ds) : Does P o [] [(x, [])] l [(d, .ptr x 0), (x, .var T (ds.map .d))] :=
  Does.newVar (m := 0) hd (and_newT hx).1 fun S ρ tv a w hv => by
    rw [show ptrV w.heap.size 0 = Value.pointer (some ⟨w.heap.size, 0, none⟩) from rfl]
    simp only [objV_row _ (and_newT hx).2]
    obtain ⟨z, h1, h2, h3⟩ := zeroT_some hz
    refine ⟨zs, ?_, hw.ok (LIn.lits h3)⟩
    simp only [execOp, ho, Instr.alloc, Sem.run_bind, h1, Result.andThen_ok, newVar, newRow, h2, Sem.run_pure, run_newObj_alloc]
theorem r_boxA {T : TypeId} {x : Nat} {y : Operand} {us : List D} (ho : o.op = .box T y) (hd : o.dst = some d) (hx : (Nat.ble 2000 x && !Nat.beq T mapT) = true) (hy : opd l y = some (.agg us)) : Does P o (rdOf y) [(x, [])] l [(d, .ptr x 0), (x, .var T (us.map .d))] :=
  Does.newVar (m := 0) hd (and_newT hx).1 fun S ρ tv a w hv => by
    rw [show ptrV w.heap.size 0 = Value.pointer (some ⟨w.heap.size, 0, none⟩) from rfl]
    simp only [objV_row _ (and_newT hx).2]
    obtain ⟨ws, h2, h3⟩ := hv.fv hy (fun _ h => h) (by intro T xs e; cases e)
    refine ⟨ws, ?_, h3⟩
    simp only [execOp, ho, Instr.box, h2, Value.cells, Sem.run_bind, Result.andThen_ok, newVar, newRow, Sem.run_pure, run_newObj_alloc]

theorem Does.newRow {rd : List Nat} {f : F} (hd : o.dst = some d) (hp : Plain f)
    (h : ∀ S ρ tv a w, View l rd S ρ tv a w → ∃ v w', (execOp a.eval o).run P w = .ok (.value v) w' ∧ Below w.heap.size w w' ∧ ∀ S' : Addr → Prop, (∀ p, S p → S' p) → (∀ p : Addr, w.heap.size ≤ p.block → p.block < w'.heap.size → S' p) → (∀ p, S p → p.block < w.heap.size) → FV S' ρ w' f v) :
    Does P o rd [] l [(d, f)] := by
  intro e σ a w next Q hn hdn hσ _ hR hnext
  obtain ⟨hdf, hsz, hfr, ρ, tv, htv, hin, hvz, hrr⟩ := hR
  obtain ⟨v, w', hrun, hbl, hf⟩ := h _ ρ tv a w (view_of hσ htv hrr)
  unfold wq
  rw [hrun, uq_value, hd]
  exact hnext _ _ (R.put hdf hsz (hfr.grow hbl) htv hin hvz (hrr.grow hbl) (hdn d hd) hn hp (hf _ (fun p hp => RR.coldOld hbl.size hp) (fun p h1 h2 => hrr.coldNew h1 h2) (fun p hp => hp.1)))

def partsD (l : List (Nat × F)) : List (Nat × Operand) → Option (List (Nat × List D))
  | [] => some []
  | (i, x) :: r => match opd l x, partsD l r with
    | some (.c u), some ps => some ((i, [u]) :: ps)
    | some (.agg us), some ps => some ((i, us) :: ps)
    | _, _ => none
def fillD (place : Nat → Option (Nat × Nat)) (cells : List D) : List (Nat × List D) → Option (List D)
  | [] => some cells
  | (i, us) :: rest => match place i with
    | none => none
    | some (off, size) => bif Nat.beq us.length size && Nat.ble (off + us.length) cells.length then fillD place (cells.take off ++ us ++ cells.drop (off + us.length)) rest else none
theorem foldl_set : ∀ (us : List Value) (k off : Nat) (cs : Array Value), off + k + us.length ≤ cs.size → (us.zipIdx k).foldl (fun (cs : Array Value) (x : Value × Nat) => cs.setIfInBounds (off + x.2) x.1) cs = (cs.toList.take (off + k) ++ us ++ cs.toList.drop (off + k + us.length)).toArray
  | [], k, off, cs, _ => by simp
  | u :: us, k, off, cs, h => by
    simp only [List.length_cons] at h
    rw [List.zipIdx_cons, List.foldl_cons, foldl_set us (k + 1) off _ (by simp; omega)]
    simp only [Array.toList_setIfInBounds]
    have e1 : (cs.toList.set (off + k) u).take (off + (k + 1)) = cs.toList.take (off + k) ++ [u] := by
      rw [← Nat.add_assoc, List.take_succ_eq_append_getElem (by simp; omega)]
      simp [List.take_set_of_le]
    have e2 : (cs.toList.set (off + k) u).drop (off + (k + 1) + us.length) = cs.toList.drop (off + k + (us.length + 1)) := by
      rw [List.drop_set_of_lt (by omega), show off + (k + 1) + us.length = off + k + (us.length + 1) by omega]
    rw [e1, e2]
    simp
theorem fill_ok {S : Addr → Prop} {w : World} {ρ : Nat → Nat} {a : Act} {place : Nat → Option (Nat × Nat)} : ∀ (parts : List (Nat × Operand)) (ps : List (Nat × List D)) (cs : List D) (vs : List Value) (out : List D),
    (∀ x, x ∈ parts → ∀ f, opd l x.2 = some f → (∀ T xs, f ≠ .var T xs) → FV S ρ w f (a.eval x.2)) → partsD l parts = some ps → LIn S w cs vs → fillD place cs ps = some out →
    ∃ outv : List Value, Instr.fill place vs.toArray (parts.map fun (i, x) => (i, a.eval x)) = some outv.toArray ∧ LIn S w out outv
  | [], ps, cs, vs, out, _, hps, hl, hf => by
    cases hps
    cases hf
    exact ⟨vs, rfl, hl⟩
  | (i, x) :: r, ps, cs, vs, out, hev, hps, hl, hf => by
    have key : ∃ us ps' ws, ps = (i, us) :: ps' ∧ partsD l r = some ps' ∧ (a.eval x).cells = ws.toArray ∧ LIn S w us ws := by
      rw [partsD] at hps
      split at hps
      · rename_i u ps' h1 h2
        cases hps
        have h3 : DIn S w u (a.eval x) := hev (i, x) (by simp) _ h1 (by intro T xs e; cases e)
        have hone := h3.one
        have hcl : (a.eval x).cells = #[a.eval x] := by revert hone; cases a.eval x <;> simp [Value.oneCell', Value.cells]
        exact ⟨_, _, [a.eval x], rfl, h2, hcl, h3, trivial⟩
      · rename_i us ps' h1 h2
        cases hps
        obtain ⟨ws, h3, h4⟩ := hev (i, x) (by simp) _ h1 (by intro T xs e; cases e)
        exact ⟨_, _, ws, rfl, h2, by rw [h3]; rfl, h4⟩
      · cases hps
    obtain ⟨us, ps', ws, rfl, hr, hcl, hus⟩ := key
    rw [fillD] at hf
    rw [List.map_cons, Instr.fill]
    cases hp : place i with
    | none => rw [hp] at hf; cases hf
    | some q =>
      obtain ⟨off, size⟩ := q
      rw [hp] at hf
      simp only at hf ⊢
      cases hb : (Nat.beq us.length size && Nat.ble (off + us.length) cs.length) with
      | false => rw [hb] at hf; cases hf
      | true =>
        rw [hb, cond_true] at hf
        rw [Bool.and_eq_true] at hb
        have h1 := Nat.eq_of_beq_eq_true hb.1
        have h2 := Nat.le_of_ble_eq_true hb.2
        have h3 := hus.len
        have h4 := hl.len
        rw [hcl]
        rw [if_neg (by simp; omega)]
        have e1 := foldl_set ws 0 off vs.toArray (by simp; omega)
        have e2 : Array.foldl (fun (cs : Array Value) (x : Value × Nat) => cs.setIfInBounds (off + x.2) x.1) vs.toArray ws.toArray.zipIdx = (vs.take off ++ ws ++ vs.drop (off + ws.length)).toArray := by
          rw [← Array.foldl_toList]
          simpa using e1
        rw [e2]
        exact fill_ok r ps' _ _ out (fun x hx => hev x (List.mem_cons_of_mem _ hx)) hr (by
          rw [← h3]
          exact ((hl.take off).append hus).append (hl.drop _)) hf

def rdsOf (parts : List (Nat × Operand)) : List Nat := parts.flatMap fun x => rdOf x.2
def placesT (P : Program) (T : TypeId) : Option (List (Nat × Nat)) :=
  match P.underlying T with
  | some (.struct fs) => fs.toList.mapM fun f => (sizeT P f.type).map fun n => (f.offset, n)
  | _ => none
theorem places_ok {P : Program} : ∀ (fs : List Field) (qs : List (Nat × Nat)), (fs.mapM fun f => (sizeT P f.type).map fun n => (f.offset, n)) = some qs → ∀ w : World,
    (fs.mapM fun f => (do pure (f.offset, ← sizeOf f.type) : Sem (Nat × Nat))).run P w = .ok qs w
  | [], qs, h, w => by
    simp at h
    subst h
    rfl
  | f :: fs, qs, h, w => by
    rw [List.mapM_cons] at h
    cases hs : sizeT P f.type with
    | none => simp [hs] at h
    | some n =>
      cases hr : fs.mapM fun f => (sizeT P f.type).map fun n => (f.offset, n) with
      | none => simp [hs, hr] at h
      | some qs' =>
        simp [hs, hr] at h
        subst h
        rw [List.mapM_cons]
        simp only [Sem.run_bind, run_sizeOf' hs w, Result.andThen_ok, Sem.run_pure, places_ok fs qs' hr w]
theorem r_build {T : TypeId} {parts : Array (Nat × Operand)} {zs : List Value} {qs : List (Nat × Nat)} {ps : List (Nat × List D)} {out : List D} (ds : List D) (ho : o.op = .build T parts) (hd : o.dst = some d) (hz : zeroT P T = some zs) (hq : placesT P T = some qs)
    (hw : WkDs (zs.map .lit) ds) (hp : partsD l parts.toList = some ps) (hf : fillD (fun i => qs[i]?) ds ps = some out) : Does P o (rdsOf parts.toList) [] l [(d, .agg out)] :=
  Does.val hd trivial fun S ρ tv a w hv => by
    obtain ⟨z, h1, h2, h3⟩ := zeroT_some hz
    obtain ⟨outv, h4, h5⟩ := fill_ok (l := l) (S := S) (w := w) (ρ := ρ) (a := a) (place := fun i => qs[i]?) parts.toList ps _ zs out (fun x hx f h1 h2 => hv.fv h1 (fun k hk => by
      unfold rdsOf
      exact List.mem_flatMap.2 ⟨x, hx, hk⟩) h2) hp (hw.ok (LIn.lits h3)) hf
    refine ⟨.agg outv.toArray, ?_, outv, rfl, h5⟩
    unfold placesT at hq
    cases hu : P.underlying T with
    | none => simp [hu] at hq
    | some dd =>
      rw [hu] at hq
      cases dd with
      | struct fs =>
        have hpl := places_ok fs.toList qs hq w
        have hpl' : (fs.mapM fun f => (do pure (f.offset, ← sizeOf f.type) : Sem (Nat × Nat))).run P w = .ok qs.toArray w := by
          rw [Array.mapM_eq_mapM_toList]
          change Sem.run P (List.mapM _ fs.toList >>= fun a => pure a.toArray) w = _
          rw [Sem.run_bind, hpl]
          rfl
        have h6 : Instr.fill (fun x => qs.toArray[x]?) z.cells (parts.map fun (i, x) => (i, a.eval x)).toList = some outv.toArray := by
          rw [h2, Array.toList_map]
          simpa using h4
        simp only [execOp, ho, Instr.build, Sem.run_bind, h1, Result.andThen_ok, run_underlying hu w, hpl', h6, Sem.run_pure]
      | _ => simp at hq
end

end Go.Proofs.YtlagglkpbnbmeaaGreatDoor

/- Shadows: a region in whatever order; the statements. -/
namespace Go.Proofs.YtlagglkpbnbmeaaGreatDoor
set_option linter.unusedVariables false
open Go Go.RowKit

theorem Does.more {P : Program} {o : Oper} {rd rd' : List Nat} {fr : List (Nat × List Nat)} {l post : List (Nat × F)} (h : Does P o rd fr l post) (hr : ∀ k, k ∈ rd → k ∈ rd') : Does P o rd' fr l post :=
  fun e σ a w next Q hn hd hσ hf hR hnext => h e σ a w next Q hn hd (fun k hk => hσ k (hr k hk)) hf hR hnext
theorem Does.cast {P : Program} {o : Oper} {rd : List Nat} {fr : List (Nat × List Nat)} {l post post' : List (Nat × F)} (h : Does P o rd fr l post) (e : post = post') : Does P o rd fr l post' := e ▸ h
theorem Does.same {P : Program} {o : Oper} {rd : List Nat} {fr : List (Nat × List Nat)} {l l' post : List (Nat × F)} (h : Does P o rd fr l post) (hl : ∀ k, k ∈ rd → find l' k = find l k) : Does P o rd fr l' post :=
  fun e σ a w next Q hn hd hσ hf hR hnext => h e σ a w next Q hn hd (fun k hk => (hσ k hk).trans (hl k hk)) hf hR hnext

structure Stp where
  rd : List Nat
  fr : List (Nat × List Nat)
  post : List (Nat × F)

def gk (ops : Array Oper) (o : Oper) : List Nat :=
  match o.guard with
  | none => []
  | some (j, _) => match (ops[j]?).bind (·.dst) with | some t => [t] | none => []
def wantB (ops : Array Oper) (l : List (Nat × F)) (o : Oper) : Option Bool :=
  match o.guard with
  | none => some true
  | some (j, b) => match (ops[j]?).bind (·.dst) with
    | none => some false
    | some t => bif Nat.blt t 1000 then (match find l t with
      | some (.c (.lit (.bool c))) => some (c == b)
      | some .und => some false
      | _ => none) else none
def undPost (o : Oper) : List (Nat × F) := match o.dst with | some d => [(d, .und)] | none => []
def StepOK (P : Program) (ops : Array Oper) (o : Oper) (l : List (Nat × F)) (s : Stp) : Prop :=
  (wantB ops l o = some true ∧ ∃ rd, s.rd = gk ops o ++ rd ∧ Does P o rd s.fr l s.post) ∨ (wantB ops l o = some false ∧ s.rd = gk ops o ∧ s.fr = [] ∧ s.post = undPost o)
def Steps (P : Program) (ops : Array Oper) : Nat → List (Nat × F) → List Stp → Prop
  | i, _, [] => i = ops.size
  | i, l, s :: r => (∃ o, ops[i]? = some o ∧ StepOK P ops o l s) ∧ Steps P ops (i + 1) (s.post ++ l) r
theorem Steps.run {P : Program} {ops : Array Oper} {i : Nat} {l post : List (Nat × F)} {rd : List Nat} {fr : List (Nat × List Nat)} {r : List Stp} {o : Oper} (ho : ops[i]? = some o) (hw : wantB ops l o = some true) (hd : Does P o rd fr l post) (h : Steps P ops (i + 1) (post ++ l) r) :
    Steps P ops i l (⟨gk ops o ++ rd, fr, post⟩ :: r) := ⟨⟨o, ho, .inl ⟨hw, rd, rfl, hd⟩⟩, h⟩
theorem Steps.skip {P : Program} {ops : Array Oper} {i : Nat} {l : List (Nat × F)} {r : List Stp} {o : Oper} (ho : ops[i]? = some o) (hw : wantB ops l o = some false) (h : Steps P ops (i + 1) (undPost o ++ l) r) :
    Steps P ops i l (⟨gk ops o, [], undPost o⟩ :: r) := ⟨⟨o, ho, .inr ⟨hw, rfl, rfl, rfl⟩⟩, h⟩
theorem Steps.nil {P : Program} {ops : Array Oper} {i : Nat} {l : List (Nat × F)} (h : i = ops.size) : Steps P ops i l [] := h

theorem wanted_ok {P : Program} {ops : Array Oper} {o : Oper} {l : List (Nat × F)} {b : Bool} {e : Env} {σ : Sta} {a : Act} {w : World} (h : wantB ops l o = some b) (hσ : ∀ k, k ∈ gk ops o → σ k = find l k) (hR : R e σ a w) (hn : e.n ≤ 1000) : Region.wanted o (yielded ops a.tmps) = b := by
  obtain ⟨_, hsz, _, ρ, tv, htv, _, _, hrr⟩ := hR
  unfold wantB at h
  unfold gk at hσ
  unfold Region.wanted
  cases hg : o.guard with
  | none => rw [hg] at h; simp at h; rw [← h]
  | some jb =>
    obtain ⟨j, c⟩ := jb
    rw [hg] at h hσ
    simp only at h hσ ⊢
    unfold yielded
    cases ht : (ops[j]?).bind (·.dst) with
    | none => rw [ht] at h; cases h; rfl
    | some t =>
      rw [ht] at h hσ
      simp only [Option.bind_some] at h hσ ⊢
      cases hb : Nat.blt t 1000 with
      | false => rw [hb] at h; cases h
      | true =>
        have htl : t < 1000 := Nat.le_of_ble_eq_true hb
        rw [hb, cond_true] at h
        have hval : ∀ f, find l t = some f → FV (cold e.V σ ρ tv w) ρ w f (tv t) ∨ ∃ T xs, f = .var T xs := by
          intro f hf
          have := hrr.rel t f (by rw [hσ t (by simp)]; exact hf)
          cases f with
          | var T xs => exact .inr ⟨T, xs, rfl⟩
          | ob p => exact .inl trivial
          | _ => exact .inl this
        have hg : a.tmps[t]? = some (tv t) ∨ (tv t = undef ∧ a.tmps[t]? = none) := by
          rw [htv t htl, Array.getD_eq_getD_getElem?]
          cases a.tmps[t]? with
          | none => exact .inr ⟨rfl, rfl⟩
          | some v => exact .inl rfl
        cases hf : find l t with
        | none => rw [hf] at h; cases h
        | some f =>
          rw [hf] at h
          rcases hval f hf with h1 | ⟨T, xs, h1⟩
          · split at h
            · rename_i c' heq
              cases heq
              have h2 := lit_val h1
              cases h
              rcases hg with hg | ⟨hg, _⟩
              · rw [hg, h2]
                cases c' <;> cases c <;> rfl
              · rw [h2] at hg; cases hg
            · rename_i heq
              cases heq
              cases h
              have h2 : tv t = undef := h1
              rcases hg with hg | ⟨_, hg⟩
              · rw [hg, h2]; simp [undef]
              · rw [hg]; simp
            · cases h
          · rw [h1] at h; cases h

theorem und_put {e : Env} {σ : Sta} {a : Act} {w : World} {o : Oper} (hR : R e σ a w) (hn : e.n ≤ 1000) (hd : ∀ d, o.dst = some d → d < e.n) : R e (upd σ (undPost o)) (a.put o.dst undef) w := by
  obtain ⟨hdf, hsz, hfr, ρ, tv, htv, hin, hvz, hrr⟩ := hR
  unfold undPost
  cases h : o.dst with
  | none => exact ⟨hdf, hsz, hfr, ρ, tv, htv, hin, hvz, hrr⟩
  | some d => exact R.put hdf hsz hfr htv hin hvz hrr (hd d h) hn (f := .und) trivial rfl
theorem step_ok {P : Program} {ops : Array Oper} {o : Oper} {l : List (Nat × F)} {s : Stp} (h : StepOK P ops o l s) {e : Env} {σ : Sta} {a : Act} {w : World} {K : Act → World → Prop} {Q : Exit → Act → World → Prop} {i : Nat} (hi : ops[i]? = some o) (hn : e.n ≤ 1000) (hd : ∀ d, o.dst = some d → d < e.n)
    (hσ : ∀ k, k ∈ s.rd → σ k = find l k) (hf : ∀ q, q ∈ s.fr → q.1 ∉ e.ins ∧ ∀ k f, k ∉ q.2 → σ k = some f → refB q.1 f = false) (hR : R e σ a w) (hnext : ∀ a' w', R e (upd σ s.post) a' w' → K a' w') (r : Option Nat) : wpOpIn (FR r) 0 P ops Q i K a w := by
  unfold wpOpIn
  rw [hi]
  simp only
  rcases h with ⟨hw, rd, hrd, hdo⟩ | ⟨hw, hrd, hfr, hp⟩
  · rw [if_pos (wanted_ok (P := P) hw (fun k hk => hσ k (by rw [hrd]; exact List.mem_append_left _ hk)) hR hn)]
    exact wq_in r (hdo e σ a w K Q hn hd (fun k hk => hσ k (by rw [hrd]; exact List.mem_append_right _ hk)) hf hR hnext)
  · rw [if_neg (by rw [wanted_ok (P := P) hw (fun k hk => hσ k (by rw [hrd]; exact hk)) hR hn]; decide)]
    refine ⟨fun _ _ => trivial, hnext _ _ ?_⟩
    rw [hp]
    exact und_put hR hn hd

def dom (p : List (Nat × F)) : List Nat := p.map (·.1)
theorem upd_off {σ : Sta} {p : List (Nat × F)} {k : Nat} (h : k ∉ dom p) : upd σ p k = σ k := by
  unfold upd
  have : find p k = none := by
    induction p with
    | nil => rfl
    | cons x p ih =>
      obtain ⟨j, f⟩ := x
      simp [dom] at h
      rw [find_cons, if_neg (fun e => h.1 e.symm)]
      exact ih (by simpa [dom] using h.2)
  rw [this]
theorem upd_on {p : List (Nat × F)} {k : Nat} (h : k ∈ dom p) (σ σ' : Sta) : upd σ p k = upd σ' p k := by
  unfold upd
  have : ∃ f, find p k = some f := by
    induction p with
    | nil => simp [dom] at h
    | cons x p ih =>
      obtain ⟨j, f⟩ := x
      rw [find_cons]
      by_cases e : j = k
      · exact ⟨f, if_pos e⟩
      · rw [if_neg e]
        simp [dom] at h
        exact ih (by
          rcases h with h | h
          · exact absurd h.symm e
          · simpa [dom] using h)
  obtain ⟨f, hf⟩ := this
  rw [hf]
def stF (σ : Sta) : Nat → List Stp → (Nat → Bool) → Sta
  | _, [], _ => σ
  | i, s :: r, L => stF (bif L i then upd σ s.post else σ) (i + 1) r L
theorem stF_at : ∀ (ss : List Stp) (i : Nat) (σ σ' : Sta) (L L' : Nat → Bool) (k : Nat), σ k = σ' k → (∀ j s, ss[j]? = some s → k ∈ dom s.post → L (i + j) = L' (i + j)) → stF σ i ss L k = stF σ' i ss L' k
  | [], _, _, _, _, _, _, h, _ => h
  | s :: ss, i, σ, σ', L, L', k, h, hw => by
    rw [stF, stF]
    refine stF_at ss (i + 1) _ _ L L' k ?_ (fun j s' hj hk => by
      have := hw (j + 1) s' (by simpa using hj) hk
      rwa [show i + (j + 1) = i + 1 + j by omega] at this)
    by_cases hk : k ∈ dom s.post
    · have := hw 0 s rfl hk
      rw [Nat.add_zero] at this
      rw [this]
      cases L' i
      · exact h
      · exact upd_on hk _ _
    · cases L i <;> cases L' i <;> simp [upd_off hk, h]
theorem stF_put : ∀ (ss : List Stp) (i : Nat) (σ : Sta) (L : Nat → Bool) (j : Nat) (s : Stp), ss[j]? = some s → (∀ m s', ss[m]? = some s' → j < m → L (i + m) = true → ∀ k, k ∈ dom s'.post → k ∉ dom s.post) →
    stF σ i ss (fun m => if m = i + j then true else L m) = upd (stF σ i ss (fun m => if m = i + j then false else L m)) s.post := by
  intro ss i σ L j s hs hlater
  funext k
  by_cases hk : k ∈ dom s.post
  · -- the last writer of k is j
    have : ∀ (ss : List Stp) (i : Nat) (σ : Sta) (j : Nat), ss[j]? = some s → (∀ m s', ss[m]? = some s' → j < m → L (i + m) = true → ∀ k, k ∈ dom s'.post → k ∉ dom s.post) →
        stF σ i ss (fun m => if m = i + j then true else L m) k = upd σ s.post k := by
      intro ss
      induction ss with
      | nil => intro i σ j h; simp at h
      | cons s0 ss ih =>
        intro i σ j hj hl
        rw [stF]
        cases j with
        | zero =>
          simp at hj
          subst hj
          simp only [Nat.add_zero, if_true, cond_true]
          have : ∀ (ss : List Stp) (n : Nat) (τ : Sta), (∀ m s', ss[m]? = some s' → (fun m => if m = i then true else L m) (n + m) = true → k ∉ dom s'.post) → stF τ n ss (fun m => if m = i then true else L m) k = τ k := by
            intro ss
            induction ss with
            | nil => intro n τ _; rfl
            | cons s1 ss ih2 =>
              intro n τ h
              rw [stF, ih2 (n + 1) _ (fun m s' hm hL => h (m + 1) s' (by simpa using hm) (by rwa [show n + (m + 1) = n + 1 + m by omega]))]
              have h0 := h 0 s1 rfl
              rw [Nat.add_zero] at h0
              cases hL : (if n = i then true else L n) with
              | false => rfl
              | true => exact upd_off (h0 hL)
          refine this ss (i + 1) _ (fun m s' hm hL hk' => hl (m + 1) s' (by simpa using hm) (by omega) ?_ k hk' hk)
          have e : (fun m => if m = i then true else L m) (i + 1 + m) = L (i + (m + 1)) := by
            show (if i + 1 + m = i then true else L (i + 1 + m)) = _
            rw [if_neg (by omega), show i + 1 + m = i + (m + 1) by omega]
          rw [← e]
          exact hL
        | succ j =>
          have := ih (i + 1) (bif (fun m => if m = i + (j + 1) then true else L m) i then upd σ s0.post else σ) j (by simpa using hj) (fun m s' hm hjm hL => hl (m + 1) s' (by simpa using hm) (by omega) (by rwa [show i + (m + 1) = i + 1 + m by omega]))
          rw [show (fun m => if m = i + 1 + j then true else L m) = (fun m => if m = i + (j + 1) then true else L m) by funext m; rw [show i + 1 + j = i + (j + 1) by omega]] at this
          rw [this]
          exact upd_on hk _ _
    rw [this ss i σ j hs hlater]
    exact upd_on hk _ _
  · rw [upd_off hk]
    refine stF_at ss i σ σ _ _ k rfl (fun m s' hm hk' => ?_)
    by_cases e : i + m = i + j
    · have : m = j := by omega
      subst this
      rw [hs] at hm
      cases hm
      exact absurd hk' hk
    · rw [if_neg e, if_neg e]

def edgesOf (o : Oper) : List Nat := (o.after.toList.filter fun e => Region.binds .any e).map (·.on)
def preOK (ops : Array Oper) (pre : List (List Nat)) : Bool :=
  (List.range ops.size).all fun j => match ops[j]?, pre[j]? with
    | some o, some p => ((edgesOf o).all fun k => Nat.blt k j) && p.all fun i => (edgesOf o).any fun k => Nat.beq i k || (pre.getD k []).any fun m => Nat.beq i m
    | _, _ => false
def apart (a b : List Nat) : Bool := a.all fun x => !(b.any fun y => Nat.beq x y)
theorem apart_ok {a b : List Nat} (h : apart a b = true) : ∀ k, k ∈ a → k ∉ b := by
  intro k ha hb
  unfold apart at h
  rw [List.all_eq_true] at h
  have := h k ha
  rw [Bool.not_eq_true', List.any_eq_false] at this
  exact this k hb (Nat.beq_refl k)
def indep1 (s t : Stp) : Bool := apart (dom s.post) t.rd && apart (dom s.post) (dom t.post) && apart (dom t.post) s.rd
def indepOK (ss : List Stp) (pre : List (List Nat)) : Bool :=
  (List.range ss.length).all fun j => (List.range j).all fun i => (match pre[j]? with | some p => p.any fun m => Nat.beq i m | none => false) || (match ss[i]?, ss[j]? with | some s, some t => indep1 s t | _, _ => false)
def freshIn (q : Nat × List Nat) (p : List (Nat × F)) : Bool := p.all fun (k, f) => (q.2.any fun y => Nat.beq k y) || !refB q.1 f
def freshOK (ins : List Nat) (l : List (Nat × F)) (ss : List Stp) (pre : List (List Nat)) : Bool :=
  (List.range ss.length).all fun j => match ss[j]? with
    | some s => s.fr.all fun q => (!ins.any fun y => Nat.beq q.1 y) && freshIn q l && (List.range ss.length).all fun i => Nat.beq i j || (match ss[i]?, pre[i]? with | some t, some p => (p.any fun m => Nat.beq j m) || freshIn q t.post | _, _ => false)
    | none => false
def dstOK (n : Nat) (ops : Array Oper) : Bool := Nat.ble n 1000 && ops.toList.all fun o => match o.dst with | some d => Nat.blt d n | none => true

theorem any_beq {i : Nat} {p : List Nat} : (p.any fun m => Nat.beq i m) = true ↔ i ∈ p := by
  rw [List.any_eq_true]
  constructor
  · rintro ⟨m, hm, h⟩; rw [Nat.eq_of_beq_eq_true h]; exact hm
  · intro h; exact ⟨i, h, Nat.beq_refl i⟩
theorem pre_in {ops : Array Oper} {pre : List (List Nat)} (h : preOK ops pre = true) (L : Nat → Prop) (hL : ∀ j o, ops[j]? = some o → L j → ∀ k, k ∈ edgesOf o → L k) : ∀ (j : Nat) (o : Oper) (p : List Nat), ops[j]? = some o → pre[j]? = some p → (∀ k, k ∈ edgesOf o → L k) → ∀ i, i ∈ p → L i := by
  intro j
  induction j using Nat.strongRecOn with
  | _ j ih =>
    intro o p ho hp hk i hi
    unfold preOK at h
    rw [List.all_eq_true] at h
    have hj : j < ops.size := by
      rcases Nat.lt_or_ge j ops.size with h1 | h1
      · exact h1
      · rw [Array.getElem?_eq_none h1] at ho; cases ho
    have h1 := h j (List.mem_range.2 hj)
    rw [ho, hp] at h1
    simp only [Bool.and_eq_true, List.all_eq_true, List.any_eq_true] at h1
    obtain ⟨h2, h3⟩ := h1
    obtain ⟨k, hkm, hik⟩ := h3 i hi
    have hkj : k < j := Nat.le_of_ble_eq_true (h2 k hkm)
    rw [Bool.or_eq_true] at hik
    rcases hik with e | e
    · rw [Nat.eq_of_beq_eq_true e]; exact hk k hkm
    · have hin := any_beq.1 e
      rw [List.getD_eq_getElem?_getD] at hin
      cases hpk : pre[k]? with
      | none => rw [hpk] at hin; simp at hin
      | some pk =>
        rw [hpk] at hin
        have hko : k < ops.size := by omega
        exact ih k hkj ops[k] pk (Array.getElem?_eq_getElem hko) hpk (hL k _ (Array.getElem?_eq_getElem hko) (hk k hkm)) i hin

theorem Steps.get {P : Program} {ops : Array Oper} : ∀ {ss : List Stp} {i : Nat} {l : List (Nat × F)}, Steps P ops i l ss → i + ss.length = ops.size ∧ ∀ j s, ss[j]? = some s → ∃ o, ops[i + j]? = some o ∧ StepOK P ops o (find l |> fun _ => ((ss.take j).foldl (fun l s => s.post ++ l) l)) s
  | [], i, l, h => ⟨h, fun j s hj => by simp at hj⟩
  | s0 :: ss, i, l, h => by
    obtain ⟨h1, h2⟩ := Steps.get h.2
    refine ⟨by rw [List.length_cons]; omega, fun j s hj => ?_⟩
    cases j with
    | zero => simp at hj; subst hj; exact h.1
    | succ j =>
      obtain ⟨o, h3, h4⟩ := h2 j s (by simpa using hj)
      exact ⟨o, by rw [← h3, show i + (j + 1) = i + 1 + j by omega], h4⟩
theorem stF_none : ∀ (ss : List Stp) (i : Nat) (σ : Sta) (L : Nat → Bool), (∀ j s, ss[j]? = some s → L (i + j) = false) → stF σ i ss L = σ
  | [], _, _, _, _ => rfl
  | s :: ss, i, σ, L, h => by
    have h0 := h 0 s rfl
    rw [Nat.add_zero] at h0
    rw [stF, h0, cond_false]
    exact stF_none ss (i + 1) σ L (fun j s' hj => by
      have := h (j + 1) s' (by simpa using hj)
      rwa [show i + (j + 1) = i + 1 + j by omega] at this)
theorem find_fold : ∀ (ss : List Stp) (i n : Nat) (l : List (Nat × F)), find ((ss.take n).foldl (fun l s => s.post ++ l) l) = stF (find l) i ss (fun m => decide (m < i + n))
  | [], _, _, _ => by simp [stF]
  | s :: ss, i, 0, l => by
    rw [stF_none (s :: ss) i (find l) _ (fun j _ _ => by simp)]
    rfl
  | s :: ss, i, n + 1, l => by
    rw [stF]
    simp only [List.take_succ_cons, List.foldl_cons]
    rw [find_fold ss (i + 1) n (s.post ++ l), ← upd_find]
    simp only [show i < i + (n + 1) by omega, decide_true, cond_true]
    rw [show i + 1 + n = i + (n + 1) by omega]

theorem region_any {P : Program} {ops : Array Oper} {l : List (Nat × F)} {ss : List Stp} {pre : List (List Nat)} {e : Env} {Q : Exit → Act → World → Prop} (hs : Steps P ops 0 l ss) (hp : preOK ops pre = true) (hi : indepOK ss pre = true) (hf : freshOK e.ins l ss pre = true) (hd : dstOK e.n ops = true)
    (hK : ∀ a w, R e (stF (find l) 0 ss (fun m => decide (m < ss.length))) a w → Q .normal a w) (r : Option Nat) :
    ∀ (fuel : Nat) (listed : Array Bool) (a : Act) (w : World), listed.size = ops.size → (∀ k, k ≤ ops.size → ((List.range k).filter fun i => listed.getD i true = false).length ≤ fuel) → (∀ j o, ops[j]? = some o → listed.getD j true = true → ∀ k, k ∈ edgesOf o → listed.getD k true = true) →
      R e (stF (find l) 0 ss (fun m => listed.getD m true)) a w → wpAnyIn (FR r) 0 P .any ops Q fuel listed a w := by
  obtain ⟨hlen, hget⟩ := hs.get
  rw [Nat.zero_add] at hlen
  have hready : ∀ (listed : Array Bool), listed.size = ops.size → ∀ i, i ∈ Region.ready .any ops listed ↔ i < ops.size ∧ listed.getD i true = false ∧ ∀ o, ops[i]? = some o → ∀ k, k ∈ edgesOf o → listed.getD k false = true := by
    intro listed hsz i
    unfold Region.ready
    rw [List.mem_filter, List.mem_range]
    constructor
    · rintro ⟨h1, h2⟩
      rw [Bool.and_eq_true] at h2
      refine ⟨h1, by simpa using h2.1, fun o ho k hk => ?_⟩
      rw [ho] at h2
      simp only [Option.map_some, Option.getD_some, Array.all_eq_true_iff_forall_mem, Bool.or_eq_true] at h2
      unfold edgesOf at hk
      obtain ⟨ed, hed, rfl⟩ := List.mem_map.1 hk
      rw [List.mem_filter] at hed
      rcases h2.2 ed (by simpa using hed.1) with h3 | h3
      · rw [hed.2] at h3; cases h3
      · exact h3
    · rintro ⟨h1, h2, h3⟩
      refine ⟨h1, ?_⟩
      rw [Bool.and_eq_true]
      refine ⟨by simp [h2], ?_⟩
      rw [Array.getElem?_eq_getElem h1]
      simp only [Option.map_some, Option.getD_some, Array.all_eq_true_iff_forall_mem, Bool.or_eq_true]
      intro ed hed
      cases hb : Region.binds .any ed with
      | false => exact .inl rfl
      | true =>
        refine .inr (h3 _ (Array.getElem?_eq_getElem h1) ed.on ?_)
        unfold edgesOf
        exact List.mem_map.2 ⟨ed, List.mem_filter.2 ⟨by simpa using hed, hb⟩, rfl⟩
  have hedge : ∀ j o, ops[j]? = some o → ∀ k, k ∈ edgesOf o → k < j := by
    intro j o ho k hk
    have hj : j < ops.size := by
      rcases Nat.lt_or_ge j ops.size with h1 | h1
      · exact h1
      · rw [Array.getElem?_eq_none h1] at ho; cases ho
    unfold preOK at hp
    rw [List.all_eq_true] at hp
    have h1 := hp j (List.mem_range.2 hj)
    rw [ho] at h1
    cases hpj : pre[j]? with
    | none => rw [hpj] at h1; cases h1
    | some p =>
      rw [hpj] at h1
      simp only [Bool.and_eq_true, List.all_eq_true] at h1
      exact Nat.le_of_ble_eq_true (h1.1 k hk)
  have hdone : ∀ (listed : Array Bool), listed.size = ops.size → Region.ready .any ops listed = [] → ∀ i, i < ops.size → listed.getD i true = true := by
    intro listed hsz hr i
    induction i using Nat.strongRecOn with
    | _ i ih =>
      intro hi
      cases hb : listed.getD i true with
      | true => rfl
      | false =>
        have : i ∈ Region.ready .any ops listed := (hready listed hsz i).2 ⟨hi, hb, fun o ho k hk => by
          have hk' := hedge i o ho k hk
          have := ih k hk' (by omega)
          rw [Array.getD_eq_getD_getElem?, Array.getElem?_eq_getElem (by omega)] at this ⊢
          exact this⟩
        rw [hr] at this
        simp at this
  have hfin : ∀ (listed : Array Bool) (a : Act) (w : World), listed.size = ops.size → Region.ready .any ops listed = [] → R e (stF (find l) 0 ss (fun m => listed.getD m true)) a w → Q .normal a w := by
    intro listed a w hsz hr hR
    refine hK a w ?_
    have : stF (find l) 0 ss (fun m => listed.getD m true) = stF (find l) 0 ss (fun m => decide (m < ss.length)) := by
      funext k
      refine stF_at ss 0 _ _ _ _ k rfl (fun j s hj _ => ?_)
      have hj' : j < ss.length := by
        rcases Nat.lt_or_ge j ss.length with h1 | h1
        · exact h1
        · rw [List.getElem?_eq_none h1] at hj; cases hj
      rw [Nat.zero_add, hdone listed hsz hr j (by omega)]
      simp [hj']
    rw [← this]
    exact hR
  intro fuel
  induction fuel with
  | zero =>
    intro listed a w hsz hcount hdc hR
    have hr : Region.ready .any ops listed = [] := by
      cases h : Region.ready .any ops listed with
      | nil => rfl
      | cons i r =>
        have := (hready listed hsz i).1 (by rw [h]; simp)
        have hc := hcount ops.size (Nat.le_refl _)
        have hm : i ∈ (List.range ops.size).filter fun i => listed.getD i true = false := List.mem_filter.2 ⟨List.mem_range.2 this.1, by simp [this.2.1]⟩
        have := List.length_pos_of_mem hm
        omega
    exact ⟨hr, hfin listed a w hsz hr hR⟩
  | succ fuel ih =>
    intro listed a w hsz hcount hdc hR
    refine ⟨fun hr => hfin listed a w hsz hr hR, fun j hj => ?_⟩
    obtain ⟨hjlt, hjn, hjpre⟩ := (hready listed hsz j).1 hj
    obtain ⟨s, hsj⟩ : ∃ s, ss[j]? = some s := ⟨ss[j]'(by omega), List.getElem?_eq_getElem (by omega)⟩
    obtain ⟨o, ho, hstep⟩ := hget j s hsj
    rw [Nat.zero_add] at ho
    have hjpre' := hjpre o ho
    have hpreT : ∀ k, k ∈ edgesOf o → listed.getD k true = true := fun k hk => by
      have := hjpre' k hk
      have hk2 := hedge j o ho k hk
      rw [Array.getD_eq_getD_getElem?, Array.getElem?_eq_getElem (by omega)] at this ⊢
      exact this
    have hpl : ∃ p, pre[j]? = some p := by
      unfold preOK at hp
      rw [List.all_eq_true] at hp
      have h1 := hp j (List.mem_range.2 hjlt)
      rw [ho] at h1
      cases hpj : pre[j]? with
      | none => rw [hpj] at h1; cases h1
      | some p => exact ⟨p, rfl⟩
    obtain ⟨p, hpj⟩ := hpl
    -- what must precede j is listed; what j precedes is not
    have hin : ∀ i, i ∈ p → listed.getD i true = true := pre_in hp (fun i => listed.getD i true = true) hdc j o p ho hpj hpreT
    have hout : ∀ i pi, pre[i]? = some pi → j ∈ pi → i < ops.size → listed.getD i true = false := by
      intro i pi hpi hji hilt
      cases hb : listed.getD i true with
      | false => rfl
      | true =>
        have := pre_in hp (fun i => listed.getD i true = true) hdc i ops[i] pi (Array.getElem?_eq_getElem hilt) hpi (hdc i _ (Array.getElem?_eq_getElem hilt) hb) j hji
        rw [hjn] at this; cases this
    have hpair : ∀ i j s t, i < j → j < ss.length → ss[i]? = some s → ss[j]? = some t → (∃ p, pre[j]? = some p ∧ i ∈ p) ∨ ((∀ k, k ∈ dom s.post → k ∉ t.rd) ∧ (∀ k, k ∈ dom s.post → k ∉ dom t.post) ∧ (∀ k, k ∈ dom t.post → k ∉ s.rd)) := by
      intro i j s t hij hj his hjt
      unfold indepOK at hi
      rw [List.all_eq_true] at hi
      have h1 := hi j (List.mem_range.2 hj)
      rw [List.all_eq_true] at h1
      have h2 := h1 i (List.mem_range.2 hij)
      rw [his, hjt, Bool.or_eq_true] at h2
      rcases h2 with h2 | h2
      · cases hpj : pre[j]? with
        | none => rw [hpj] at h2; cases h2
        | some p => rw [hpj] at h2; exact .inl ⟨p, rfl, any_beq.1 h2⟩
      · unfold indep1 at h2
        rw [Bool.and_eq_true, Bool.and_eq_true] at h2
        exact .inr ⟨apart_ok h2.1.1, apart_ok h2.1.2, apart_ok h2.2⟩
    have hslt : ∀ {m : Nat} {s' : Stp}, ss[m]? = some s' → m < ss.length := by
      intro m s' hm
      rcases Nat.lt_or_ge m ss.length with h1 | h1
      · exact h1
      · rw [List.getElem?_eq_none h1] at hm; cases hm
    have hrd : ∀ k, k ∈ s.rd → stF (find l) 0 ss (fun m => listed.getD m true) k = find ((ss.take j).foldl (fun l s => s.post ++ l) l) k := by
      intro k hk
      rw [find_fold ss 0 j l]
      refine stF_at ss 0 _ _ _ _ k rfl (fun m s' hm hkm => ?_)
      rw [Nat.zero_add]
      simp only [Nat.zero_add]
      have hml := hslt hm
      rcases Nat.lt_trichotomy m j with h1 | h1 | h1
      · rcases hpair m j s' s h1 (by omega) hm hsj with ⟨p', hp', hmp⟩ | ⟨h2, _, _⟩
        · rw [hpj] at hp'; cases hp'
          rw [hin m hmp]; simp [h1]
        · exact absurd hk (h2 k hkm)
      · subst h1; rw [hjn]; simp
      · rcases hpair j m s s' h1 hml hsj hm with ⟨p', hp', hjp⟩ | ⟨_, _, h2⟩
        · rw [hout m p' hp' hjp (by omega)]; simp; omega
        · exact absurd hk (h2 k hkm)
    unfold dstOK at hd
    rw [Bool.and_eq_true] at hd
    have hn : e.n ≤ 1000 := Nat.le_of_ble_eq_true hd.1
    refine step_ok hstep ho hn (fun d hdd => ?_) hrd (fun q hq => ?_) hR (fun a' w' hR' => ?_) r
    · have h2 := hd.2
      rw [List.all_eq_true] at h2
      have h3 := h2 o (by
        have := Array.mem_of_getElem? ho
        simpa using this)
      rw [hdd] at h3
      exact Nat.le_of_ble_eq_true h3
    · unfold freshOK at hf
      rw [List.all_eq_true] at hf
      have h1 := hf j (List.mem_range.2 (by omega))
      rw [hsj] at h1
      simp only [List.all_eq_true] at h1
      have h2 := h1 q hq
      rw [Bool.and_eq_true, Bool.and_eq_true] at h2
      obtain ⟨⟨h3, h4⟩, h5⟩ := h2
      refine ⟨fun hmem => ?_, fun k f hk hkf => ?_⟩
      · rw [any_beq.2 hmem] at h3; cases h3
      · have hfr : ∀ (p : List (Nat × F)), freshIn q p = true → find p k = some f → refB q.1 f = false := by
          intro p hp hfind
          induction p with
          | nil => cases hfind
          | cons x p ih2 =>
            obtain ⟨k', f'⟩ := x
            unfold freshIn at hp
            rw [List.all_cons, Bool.and_eq_true] at hp
            rw [find_cons] at hfind
            by_cases e : k' = k
            · rw [if_pos e] at hfind; cases hfind
              have := hp.1
              simp only [Bool.or_eq_true] at this
              rcases this with h6 | h6
              · exact absurd (by rw [← e]; exact any_beq.1 h6) hk
              · simpa using h6
            · rw [if_neg e] at hfind
              exact ih2 (by unfold freshIn; exact hp.2) hfind
        rw [List.all_eq_true] at h5
        -- the fact stands in l or in a step that has come up
        have : ∀ (ss' : List Stp) (i : Nat) (σ : Sta), (∀ m s', ss'[m]? = some s' → ss[i + m]? = some s') → (σ k = some f → refB q.1 f = false) → stF σ i ss' (fun m => listed.getD m true) k = some f → refB q.1 f = false := by
          intro ss'
          induction ss' with
          | nil => intro i σ _ h0 h; exact h0 h
          | cons s1 ss' ih2 =>
            intro i σ hsub h0 h
            rw [stF] at h
            refine ih2 (i + 1) _ (fun m s' hm => by rw [show i + 1 + m = i + (m + 1) by omega]; exact hsub (m + 1) s' (by simpa using hm)) ?_ h
            have hi1 := hsub 0 s1 rfl
            rw [Nat.add_zero] at hi1
            cases hb : listed.getD i true with
            | false => exact h0
            | true =>
              rw [cond_true]
              intro hu
              unfold upd at hu
              cases hfp : find s1.post k with
              | none => rw [hfp] at hu; exact h0 hu
              | some f' =>
                rw [hfp] at hu
                cases hu
                have h6 := h5 i (List.mem_range.2 (hslt hi1))
                rw [Bool.or_eq_true] at h6
                rcases h6 with h6 | h6
                · have := Nat.eq_of_beq_eq_true h6
                  subst this
                  rw [hjn] at hb; cases hb
                · rw [hi1] at h6
                  cases hpi : pre[i]? with
                  | none => rw [hpi] at h6; cases h6
                  | some pi =>
                    rw [hpi] at h6
                    simp only [Bool.or_eq_true] at h6
                    rcases h6 with h6 | h6
                    · have := hout i pi hpi (any_beq.1 h6) (by have := hslt hi1; omega)
                      rw [hb] at this; cases this
                    · exact hfr _ h6 hfp
        exact this ss 0 (find l) (fun m s' hm => by rw [Nat.zero_add]; exact hm) (fun h => hfr l h4 h) hkf
    · have hset : ∀ i, (listed.setIfInBounds j true).getD i true = if i = j then true else listed.getD i true := by
        intro i
        simp only [Array.getD_eq_getD_getElem?, Array.getElem?_setIfInBounds]
        by_cases e : j = i
        · subst e; simp [hsz, hjlt]
        · rw [if_neg e, if_neg (fun e2 => e e2.symm)]
      refine ih _ a' w' (by simp [hsz]) (fun k hk => ?_) (fun m om hom hm k hk => ?_) ?_
      · -- one fewer is left
        have hc := hcount ops.size (Nat.le_refl _)
        have hsub : ((List.range k).filter fun i => (listed.setIfInBounds j true).getD i true = false).length + 1 ≤ ((List.range ops.size).filter fun i => listed.getD i true = false).length := by
          have e1 : ((List.range k).filter fun i => (listed.setIfInBounds j true).getD i true = false).length ≤ ((List.range ops.size).filter fun i => (listed.setIfInBounds j true).getD i true = false).length :=
            ((List.range_sublist.2 hk).filter _).length_le
          have e2 : ∀ (L : List Nat), L.Nodup → j ∈ L → (L.filter fun i => (listed.setIfInBounds j true).getD i true = false).length + 1 = (L.filter fun i => listed.getD i true = false).length := by
            intro L
            induction L with
            | nil => intro _ h; simp at h
            | cons x L ih3 =>
              intro hnd hjL
              rw [List.nodup_cons] at hnd
              rw [List.filter_cons, List.filter_cons, hset x]
              by_cases ex : x = j
              · subst ex
                simp only [if_true, hjn]
                have : (L.filter fun i => (listed.setIfInBounds x true).getD i true = false) = L.filter fun i => listed.getD i true = false := by
                  refine List.filter_congr (fun i hi => ?_)
                  rw [hset i, if_neg (fun e2 => hnd.1 (by rw [← e2]; exact hi))]
                rw [this]
                simp only [Bool.true_eq_false, decide_false, Bool.false_eq_true, if_false, decide_true, if_true, List.length_cons]
              · rw [if_neg ex]
                have := ih3 hnd.2 (by
                  rcases List.mem_cons.1 hjL with h | h
                  · exact absurd h.symm ex
                  · exact h)
                by_cases hb : listed.getD x true = false
                · simp only [hb, decide_true, if_true, List.length_cons]; omega
                · simp [hb]; simpa using this
          have := e2 (List.range ops.size) List.nodup_range (List.mem_range.2 hjlt)
          omega
        omega
      · rw [hset k]
        by_cases ek : k = j
        · rw [if_pos ek]
        · rw [if_neg ek]
          rw [hset m] at hm
          by_cases em : m = j
          · subst em
            rw [ho] at hom; cases hom
            exact hpreT k hk
          · rw [if_neg em] at hm
            exact hdc m om hom hm k hk
      · have e1 := stF_put ss 0 (find l) (fun m => listed.getD m true) j s hsj (fun m s' hm hjm hL k hk hks => by
          rw [Nat.zero_add] at hL
          rcases hpair j m s s' hjm (hslt hm) hsj hm with ⟨p', hp', hjp⟩ | ⟨_, h2, _⟩
          · have := hout m p' hp' hjp (by have := hslt hm; omega)
            rw [hL] at this; cases this
          · exact h2 k hks hk)
        rw [Nat.zero_add] at e1
        have e2 : (fun m => if m = j then false else listed.getD m true) = fun m => listed.getD m true := by
          funext m
          by_cases e : m = j
          · rw [if_pos e, e, hjn]
          · rw [if_neg e]
        have e3 : (fun m => (listed.setIfInBounds j true).getD m true) = fun m => if m = j then true else listed.getD m true := by
          funext m; exact hset m
        rw [e2] at e1
        rw [e3, e1]
        exact hR'

end Go.Proofs.YtlagglkpbnbmeaaGreatDoor

/- Shadows: the statements. -/
namespace Go.Proofs.YtlagglkpbnbmeaaGreatDoor
set_option linter.unusedVariables false
open Go Go.RowKit

theorem R.grow {e : Env} {σ : Sta} {a : Act} {w w' : World} (h : R e σ a w) (hb : Below w.heap.size w w') : R e σ a w' := by
  obtain ⟨hdf, hsz, hfr, ρ, tv, htv, hin, hvz, hrr⟩ := h
  exact ⟨hdf, hsz, hfr.grow hb, ρ, tv, htv, hin, hvz, hrr.grow hb⟩
theorem R.drew {e : Env} {σ : Sta} {a : Act} {w : World} (h : R e σ a w) : R e σ a w.drew := h.grow (Below.refl _ _).drew

def Sub (l' l : List (Nat × F)) : Prop := ∀ k f, find l' k = some f → find l k = some f
def sub : List (Nat × F) → List (Nat × F) → Prop
  | [], _ => True
  | (k, f) :: r, l => find l k = some f ∧ sub r l
theorem sub_ok : ∀ {l' l : List (Nat × F)}, sub l' l → Sub l' l
  | [], _, _ => fun k f h => by cases h
  | (j, g) :: r, l, h => fun k f hf => by
    rw [find_cons] at hf
    by_cases e : j = k
    · rw [if_pos e] at hf; cases hf; rw [← e]; exact h.1
    · rw [if_neg e] at hf; exact sub_ok h.2 k f hf
theorem RR.weak {V : Addr → Prop} {ρ : Nat → Nat} {tv : Nat → Value} {w : World} {σ σ' : Sta} (h : RR V ρ tv w σ) (hs : ∀ k f, σ' k = some f → σ k = some f) : RR V ρ tv w σ' ∧ ∀ p, vol σ' ρ tv p → vol σ ρ tv p := by
  have hvol : ∀ p, vol σ' ρ tv p → vol σ ρ tv p := fun p ⟨k, f, h1, h2, h3⟩ => ⟨k, f, hs k f h1, h2, h3⟩
  exact ⟨h.to (Nat.le_refl _) (fun p hp => ⟨fun e => hp.2.2 (hvol p e), rfl⟩)
    (fun k f hf => .inl ⟨hs k f hf, h.same (hs k f hf) rfl (fun _ _ => rfl) (fun _ _ _ => rfl) (fun _ _ _ => rfl) (fun _ _ => rfl)⟩)
    (fun k f k' f' b h1 h2 h3 h4 => h.dist k f k' f' b (hs _ _ h1) (hs _ _ h2) h3 h4) (fun k f b h1 h2 => h.exb k f b (hs _ _ h1) h2), hvol⟩
theorem R.weak {e : Env} {σ σ' : Sta} {a : Act} {w : World} (h : R e σ a w) (hs : ∀ k f, σ' k = some f → σ k = some f) : R e σ' a w := by
  obtain ⟨hdf, hsz, hfr, ρ, tv, htv, hin, hvz, hrr⟩ := h
  obtain ⟨h1, h2⟩ := hrr.weak hs
  exact ⟨hdf, hsz, hfr, ρ, tv, htv, hin, fun p hp => hvz p (h2 p hp), h1⟩

abbrev Cont := Exit → List (Nat × F) → Prop
def J (P : Program) (n : Nat) (ins : List Nat) (l : List (Nat × F)) (c : Code) (K : Cont) : Prop :=
  ∀ (r : Option Nat) (e : Env) (Q : Exit → Act → World → Prop), e.n = n → e.ins = ins → (∀ x l' a w, K x l' → R e (find l') a w → Q x a w) → ∀ a w, R e (find l) a w → c.wpIn (FR r) 0 P Q a w

section
variable {P : Program} {n : Nat} {ins : List Nat} {l : List (Nat × F)} {K : Cont}
theorem J_weak {c : Code} (l' : List (Nat × F)) (h : sub l' l) (hJ : J P n ins l' c K) : J P n ins l c K :=
  fun ro e Q h1 h2 hK a w hR => hJ ro e Q h1 h2 hK a w (hR.weak (sub_ok h))
theorem J_skip (h : K .normal l) : J P n ins l .skip K := fun _ e Q _ _ hK a w hR => wpIn_skip (hK _ _ _ _ h hR)
theorem J_exit {i : Nat} (h : K (.exit i) l) : J P n ins l (.exit i) K := fun _ e Q _ _ hK a w hR => wpIn_exit (hK _ _ _ _ h hR)
theorem J_ret (h : K .ret l) : J P n ins l .ret K := fun _ e Q _ _ hK a w hR => wpIn_ret (hK _ _ _ _ h hR)
def seqK (P : Program) (n : Nat) (ins : List Nat) (y : Code) (K : Cont) : Cont
  | .normal, l => J P n ins l y K
  | x, l => K x l
theorem J_seq {x y : Code} (h : J P n ins l x (seqK P n ins y K)) : J P n ins l (.seq x y) K := fun ro e Q h1 h2 hK a w hR =>
  wpIn_seq (h ro e _ h1 h2 (fun z l' a w hz hR' => by
    cases z with
    | normal => exact hz ro e Q h1 h2 hK a w hR'
    | exit i => exact hK _ _ _ _ hz hR'
    | goto i => exact hK _ _ _ _ hz hR'
    | ret => exact hK _ _ _ _ hz hR'
    | panic i => exact hK _ _ _ _ hz hR'
    | outgrown => exact hK _ _ _ _ hz hR') a w hR)
def blkK (i : Nat) (K : Cont) : Cont
  | .exit j, l => bif Nat.beq j i then K .normal l else K (.exit j) l
  | x, l => K x l
theorem J_block {i : Nat} {x : Code} (h : J P n ins l x (blkK i K)) : J P n ins l (.block i x) K := fun ro e Q h1 h2 hK a w hR =>
  wpIn_block (h ro e _ h1 h2 (fun z l' a w hz hR' => by
    cases z with
    | exit j =>
      show if j = i then _ else _
      by_cases hj : j = i
      · rw [if_pos hj]
        rw [blkK, hj, Nat.beq_refl, cond_true] at hz
        exact hK _ _ _ _ hz hR'
      · rw [if_neg hj]
        have : Nat.beq j i = false := by
          cases hb : Nat.beq j i with
          | false => rfl
          | true => exact absurd (Nat.eq_of_beq_eq_true hb) hj
        rw [blkK, this, cond_false] at hz
        exact hK _ _ _ _ hz hR'
    | normal => exact hK _ _ _ _ hz hR'
    | goto i => exact hK _ _ _ _ hz hR'
    | ret => exact hK _ _ _ _ hz hR'
    | panic i => exact hK _ _ _ _ hz hR'
    | outgrown => exact hK _ _ _ _ hz hR') a w hR)
theorem eval_bool {e : Env} {a : Act} {w : World} {c : Operand} {b : Bool} (hc : opd l c = some (.c (.lit (.bool b)))) (hR : R e (find l) a w) : a.eval c = .bool b := by
  obtain ⟨_, _, _, ρ, tv, htv, _, _, hrr⟩ := hR
  exact lit_val ((view_of (rd := rdOf c) (l := l) (fun _ _ => rfl) htv hrr).fv hc (fun _ h => h) (by intro T xs e; cases e))
theorem J_cond {c : Operand} {x y : Code} {b : Bool} (hc : opd l c = some (.c (.lit (.bool b)))) (h1 : b = true → J P n ins l x K) (h2 : b = false → J P n ins l y K) : J P n ins l (.cond c x y) K := fun ro e Q g1 g2 hK a w hR => by
  refine wpIn_cond_split (eval_bool hc hR) (fun hb => h1 hb ro e Q g1 g2 hK a w hR) (fun hb => h2 hb ro e Q g1 g2 hK a w hR)
theorem J_condT {c : Operand} {x y : Code} (hc : opd l c = some (.c (.lit (.bool true)))) (h : J P n ins l x K) : J P n ins l (.cond c x y) K := J_cond hc (fun _ => h) (fun e => by cases e)
theorem J_condF {c : Operand} {x y : Code} (hc : opd l c = some (.c (.lit (.bool false)))) (h : J P n ins l y K) : J P n ins l (.cond c x y) K := J_cond hc (fun e => by cases e) (fun _ => h)
def loopK {α : Type} (I : α → List (Nat × F)) (μ : α → Nat) (x : α) (K : Cont) : Cont
  | .normal, l => ∃ y, μ y < μ x ∧ sub (I y) l
  | z, l => K z l
theorem J_loop {α : Type} (I : α → List (Nat × F)) (μ : α → Nat) (x : α) {c : Code} (h0 : sub (I x) l) (h : ∀ x, J P n ins (I x) c (loopK I μ x K)) : J P n ins l (.loop c) K := fun ro e Q h1 h2 hK a w hR => by
  have key : ∀ m x, μ x ≤ m → ∀ a w, R e (find (I x)) a w → Code.roundsIn (FR ro) 0 P c Q (m + 1) a w := by
    intro m
    induction m with
    | zero =>
      intro x hx a w hR
      rw [roundsIn_succ]
      exact h x ro e _ h1 h2 (fun z l' a w hz hR' => by
        cases z with
        | normal => obtain ⟨y, hy, _⟩ := hz; omega
        | exit i => exact hK _ _ _ _ hz hR'
        | goto i => exact hK _ _ _ _ hz hR'
        | ret => exact hK _ _ _ _ hz hR'
        | panic i => exact hK _ _ _ _ hz hR'
        | outgrown => exact hK _ _ _ _ hz hR') a w hR
    | succ m ih =>
      intro x hx a w hR
      rw [roundsIn_succ]
      exact h x ro e _ h1 h2 (fun z l' a w hz hR' => by
        cases z with
        | normal =>
          obtain ⟨y, hy, hs⟩ := hz
          exact ih y (by omega) a w (hR'.weak (sub_ok hs))
        | exit i => exact hK _ _ _ _ hz hR'
        | goto i => exact hK _ _ _ _ hz hR'
        | ret => exact hK _ _ _ _ hz hR'
        | panic i => exact hK _ _ _ _ hz hR'
        | outgrown => exact hK _ _ _ _ hz hR') a w hR
  exact wpIn_loop_rounds _ (key _ x (Nat.le_refl _) a w (hR.weak (sub_ok h0)))

def exitK (K : Cont) : Cont
  | .normal, _ => False
  | z, l => K z l
theorem J_loopExit {c : Code} (h : J P n ins l c (exitK K)) : J P n ins l (.loop c) K := fun ro e Q h1 h2 hK a w hR => by
  refine wpIn_loop_rounds 1 ?_
  rw [roundsIn_succ]
  exact h ro e _ h1 h2 (fun z l' a w hz hR' => by
    cases z with
    | normal => exact hz.elim
    | exit i => exact hK _ _ _ _ hz hR'
    | goto i => exact hK _ _ _ _ hz hR'
    | ret => exact hK _ _ _ _ hz hR'
    | panic i => exact hK _ _ _ _ hz hR'
    | outgrown => exact hK _ _ _ _ hz hR') a w hR

def after (l : List (Nat × F)) : List Stp → List (Nat × F)
  | [] => l
  | s :: r => after (s.post ++ l) r
theorem after_fold : ∀ (ss : List Stp) (l : List (Nat × F)), after l ss = ss.foldl (fun l s => s.post ++ l) l
  | [], _ => rfl
  | s :: r, l => after_fold r (s.post ++ l)
def freshSeq (ins : List Nat) : List (Nat × F) → List Stp → Bool
  | _, [] => true
  | l, s :: r => (s.fr.all fun q => (!ins.any fun y => Nat.beq q.1 y) && freshIn q l) && freshSeq ins (s.post ++ l) r
theorem freshIn_ok {q : Nat × List Nat} : ∀ {p : List (Nat × F)}, freshIn q p = true → ∀ k f, k ∉ q.2 → find p k = some f → refB q.1 f = false
  | [], _, k, f, _, h => by cases h
  | (k', f') :: p, hp, k, f, hk, hfind => by
    unfold freshIn at hp
    rw [List.all_cons, Bool.and_eq_true] at hp
    rw [find_cons] at hfind
    by_cases e : k' = k
    · rw [if_pos e] at hfind; cases hfind
      have := hp.1
      simp only [Bool.or_eq_true] at this
      rcases this with h6 | h6
      · exact absurd (by rw [← e]; exact any_beq.1 h6) hk
      · simpa using h6
    · rw [if_neg e] at hfind
      exact freshIn_ok (p := p) hp.2 k f hk hfind
theorem region_seq {ops : Array Oper} (ro : Option Nat) {e : Env} {Q : Exit → Act → World → Prop} (hd : dstOK e.n ops = true) : ∀ (ss : List Stp) (i : Nat) (l : List (Nat × F)), Steps P ops i l ss → freshSeq e.ins l ss = true → (∀ a w, R e (find (after l ss)) a w → Q .normal a w) →
    ∀ a w, R e (find l) a w → wpOpsIn (FR ro) 0 P ops Q (List.range' i ss.length) a w
  | [], i, l, hs, hf, hK, a, w, hR => hK a w hR
  | s :: r, i, l, hs, hf, hK, a, w, hR => by
    obtain ⟨⟨o, ho, hstep⟩, hr⟩ := hs
    rw [freshSeq, Bool.and_eq_true] at hf
    unfold dstOK at hd
    have hd' := hd
    rw [Bool.and_eq_true] at hd
    rw [List.length_cons, List.range'_succ, wpOpsIn_cons]
    refine step_ok hstep ho (Nat.le_of_ble_eq_true hd.1) (fun d hdd => ?_) (fun _ _ => rfl) (fun q hq => ?_) hR (fun a' w' hR' => ?_) ro
    · have h2 := hd.2
      rw [List.all_eq_true] at h2
      have h3 := h2 o (by
        have := Array.mem_of_getElem? ho
        simpa using this)
      rw [hdd] at h3
      exact Nat.le_of_ble_eq_true h3
    · have h1 := hf.1
      rw [List.all_eq_true] at h1
      have h2 := h1 q hq
      rw [Bool.and_eq_true] at h2
      refine ⟨fun hm => ?_, freshIn_ok h2.2⟩
      rw [any_beq.2 hm] at h2
      exact absurd h2.1 (by decide)
    · rw [upd_find] at hR'
      exact region_seq ro hd' r (i + 1) (s.post ++ l) hr hf.2 hK a' w' hR'
def regOK (n : Nat) (ins : List Nat) (l : List (Nat × F)) (ops : Array Oper) (ss : List Stp) (pre : List (List Nat)) (draw : Bool) : Bool :=
  dstOK n ops && bif draw then preOK ops pre && indepOK ss pre && freshOK ins l ss pre else freshSeq ins l ss
theorem J_region {id : Nat} {ops : Array Oper} {draw : Bool} {ss : List Stp} (pre : List (List Nat)) (hm : P.follows .mixedOrders = true) (hs : Steps P ops 0 l ss) (hok : regOK n ins l ops ss pre draw = true) (h : K .normal (after l ss)) : J P n ins l (.region id ops draw) K := by
  intro ro e Q h1 h2 hK a w hR
  subst h1 h2
  have hlen : ss.length = ops.size := by have := hs.get.1; omega
  unfold regOK at hok
  rw [Bool.and_eq_true] at hok
  have hfin : ∀ a w, R e (find (after l ss)) a w → Q .normal a w := fun a w hR => hK _ _ _ _ h hR
  cases draw with
  | false =>
    refine wpIn_region ?_
    rw [List.range_eq_range', ← hlen]
    exact region_seq ro hok.1 ss 0 l hs hok.2 hfin a w hR
  | true =>
    have h3 := hok.2
    rw [cond_true, Bool.and_eq_true, Bool.and_eq_true] at h3
    refine wpIn_region_any hm ?_
    refine region_any hs h3.1.1 h3.1.2 h3.2 hok.1 (fun a w hR => hfin a w ?_) ro ops.size _ a _ (by simp) (fun k hk => ?_) (fun j o ho hj => ?_) ?_
    · have := find_fold ss 0 ss.length l
      rw [Nat.zero_add, List.take_length] at this
      rw [after_fold, this]
      exact hR
    · exact Nat.le_trans (List.length_filter_le _ _) (by rw [List.length_range]; exact hk)
    · have hjl : j < ops.size := by
        rcases Nat.lt_or_ge j ops.size with h1 | h1
        · exact h1
        · rw [Array.getElem?_eq_none h1] at ho; cases ho
      simp [Array.getD_eq_getD_getElem?, hjl] at hj
    · rw [stF_none ss 0 (find l) _ (fun j s hj => ?_)]
      · exact hR.drew
      · have : j < ss.length := by
          rcases Nat.lt_or_ge j ss.length with h1 | h1
          · exact h1
          · rw [List.getElem?_eq_none h1] at hj; cases hj
        have hj2 : j < ops.size := by omega
        simp [Array.getD_eq_getD_getElem?, hj2]
def JR (P : Program) (n : Nat) (ins : List Nat) (l0 : List (Nat × F)) (id : Nat) (ops : Array Oper) (draw : Bool) (K : Cont) (i : Nat) (l : List (Nat × F)) (acc : List Stp) : Prop :=
  (∀ rest, Steps P ops i l rest → Steps P ops 0 l0 (acc.reverse ++ rest)) → after l0 acc.reverse = l → J P n ins l0 (.region id ops draw) K
theorem JR.start {id : Nat} {ops : Array Oper} {draw : Bool} (h : JR P n ins l id ops draw K 0 l []) : J P n ins l (.region id ops draw) K := h (fun _ h => h) rfl
theorem after_append : ∀ (ss ts : List Stp) (l : List (Nat × F)), after l (ss ++ ts) = after (after l ss) ts
  | [], _, _ => rfl
  | s :: ss, ts, l => after_append ss ts (s.post ++ l)
theorem JR.run {l0 : List (Nat × F)} {id : Nat} {ops : Array Oper} {draw : Bool} {i : Nat} {acc : List Stp} {post : List (Nat × F)} {rd : List Nat} {fr : List (Nat × List Nat)} {o : Oper} (ho : ops[i]? = some o) (hw : wantB ops l o = some true) (hd : Does P o rd fr l post)
    (h : JR P n ins l0 id ops draw K (i + 1) (post ++ l) (⟨gk ops o ++ rd, fr, post⟩ :: acc)) : JR P n ins l0 id ops draw K i l acc := fun hs ha =>
  h (fun rest hr => by
    rw [List.reverse_cons, List.append_assoc]
    exact hs _ (Steps.run ho hw hd hr)) (by rw [List.reverse_cons, after_append, ha]; rfl)
theorem JR.skip {l0 : List (Nat × F)} {id : Nat} {ops : Array Oper} {draw : Bool} {i : Nat} {acc : List Stp} {o : Oper} (ho : ops[i]? = some o) (hw : wantB ops l o = some false)
    (h : JR P n ins l0 id ops draw K (i + 1) (undPost o ++ l) (⟨gk ops o, [], undPost o⟩ :: acc)) : JR P n ins l0 id ops draw K i l acc := fun hs ha =>
  h (fun rest hr => by
    rw [List.reverse_cons, List.append_assoc]
    exact hs _ (Steps.skip ho hw hr)) (by rw [List.reverse_cons, after_append, ha]; rfl)
theorem JR.done {l0 : List (Nat × F)} {id : Nat} {ops : Array Oper} {draw : Bool} {i : Nat} {acc : List Stp} (pre : List (List Nat)) (hm : P.follows .mixedOrders = true) (hi : i = ops.size) (hok : regOK n ins l0 ops acc.reverse pre draw = true) (h : K .normal l) :
    JR P n ins l0 id ops draw K i l acc := fun hs ha => by
  have h1 := hs [] hi
  rw [List.append_nil] at h1
  exact J_region pre hm h1 hok (by rw [ha]; exact h)
end

end Go.Proofs.YtlagglkpbnbmeaaGreatDoor

/- Shadows: a function's contract, a call. -/
namespace Go.Proofs.YtlagglkpbnbmeaaGreatDoor
set_option linter.unusedVariables false
open Go Go.RowKit

def nums : Nat → List F → List (Nat × F)
  | _, [] => []
  | i, f :: r => (i, f) :: nums (i + 1) r
theorem find_nums : ∀ (fs : List F) (i k : Nat), find (nums i fs) k = if i ≤ k then fs[k - i]? else none
  | [], i, k => by simp [nums, find]
  | f :: r, i, k => by
    rw [nums, find_cons, find_nums r (i + 1) k]
    by_cases h : i = k
    · subst h; simp
    · rw [if_neg h]
      by_cases h2 : i + 1 ≤ k
      · rw [if_pos h2, if_pos (by omega), show k - i = (k - (i + 1)) + 1 by omega]; simp
      · rw [if_neg h2, if_neg (by omega)]
def ini (fs : List F) (vs : List (Nat × F)) : List (Nat × F) := nums 0 fs ++ vs
def Con (P : Program) (f : FuncId) (fs : List F) (vs : List (Nat × F)) (r : F) (vs' : List (Nat × F)) : Prop :=
  ∀ (V : Addr → Prop) (ρ : Nat → Nat) (tv : Nat → Value) (w : World) (args : Array Value) (B : Nat), args.size = fs.length → (∀ i, i < args.size → tv i = args.getD i undef) → RR V ρ tv w (find (ini fs vs)) → TT B w → (∀ p, vol (find (ini fs vs)) ρ tv p → B ≤ p.block) → B ≤ w.heap.size →
    Calls P f args w fun e w' => ∃ v tv', e = .returned v ∧ tv' 0 = v ∧ Fr (vol (find (ini fs vs)) ρ tv) w w' ∧ RR V ρ tv' w' (find ((0, r) :: vs')) ∧ ∀ p, vol (find ((0, r) :: vs')) ρ tv' p → vol (find (ini fs vs)) ρ tv p ∨ w.heap.size ≤ p.block

def resE (P : Program) (l : List (Nat × F)) : ResultVar → Option E
  | .tmp t => bif Nat.blt t 1000 then (match find l t with
    | some (.c d) => some (.c d)
    | some (.agg ds) => some (.agg ds)
    | _ => none) else none
  | .cell a T => bif Nat.blt a 1000 then (match find l a with
    | some (.ptr x o) => (match find l x with
      | some (.var T0 xs) => bif !(Nat.blt o mapT && !Nat.beq T0 mapT) then none else (match aggN P T with
        | some m => (plainCs ((xs.drop o).take m)).bind fun ds => bif Nat.beq ds.length m then some (.agg ds) else none
        | none => bif plainT P T then (match xs[o]? with | some (.d d) => some (.c d) | _ => none) else none)
      | _ => none)
    | _ => none) else none
def resEs (P : Program) (l : List (Nat × F)) : List ResultVar → Option (List E)
  | [] => some []
  | x :: r => match resE P l x, resEs P l r with
    | some e, some es => some (e :: es)
    | _, _ => none
def resF (P : Program) (l : List (Nat × F)) : List ResultVar → Option F
  | [.tmp t] => bif Nat.blt t 1000 then (match find l t with
    | some (.var _ _) => none
    | some (.ptr _ _) => none
    | x => x) else none
  | [x] => (resE P l x).map fun | .c d => .c d | .agg ds => .agg ds
  | xs => (resEs P l xs).map .tup

def resV (tmps : Array Value) : ResultVar → Sem Value
  | .tmp t => pure (tmps.getD t undef)
  | .cell a t => do loadVar t (← asAddr (tmps.getD a undef))
theorem results_eq (fn : Func) (tmps : Array Value) : results fn tmps = (do let vs ← fn.results.mapM (resV tmps); pure (if h : vs.size = 1 then vs[0] else .tuple vs) : Sem Value) := by
  unfold results
  have : (fun x : ResultVar => match x with | .tmp t => (pure (tmps.getD t undef) : Sem Value) | .cell a t => do loadVar t (← asAddr (tmps.getD a undef))) = resV tmps := by
    funext x
    cases x <;> rfl
  rw [← this]
  rfl
theorem resE_ok {P : Program} {l : List (Nat × F)} {x : ResultVar} {e : E} {V : Addr → Prop} {ρ : Nat → Nat} {tv : Nat → Value} {w : World} {tmps : Array Value} (h : resE P l x = some e) (htv : ∀ t, t < 1000 → tv t = tmps.getD t undef) (hrr : RR V ρ tv w (find l)) :
    ∃ v, (resV tmps x).run P w = .ok v w ∧ EIn (cold V (find l) ρ tv w) w e v := by
  cases x with
  | tmp t =>
    simp only [resE] at h
    cases hb : Nat.blt t 1000 with
    | false => rw [hb] at h; cases h
    | true =>
      have ht : t < 1000 := Nat.le_of_ble_eq_true hb
      rw [hb, cond_true] at h
      refine ⟨tmps.getD t undef, rfl, ?_⟩
      rw [← htv t ht]
      split at h
      · rename_i d hf; cases h; exact hrr.rel t _ hf
      · rename_i ds hf; cases h; exact hrr.rel t _ hf
      · cases h
  | cell a T =>
    simp only [resE] at h
    cases hb : Nat.blt a 1000 with
    | false => rw [hb] at h; cases h
    | true =>
      have ht : a < 1000 := Nat.le_of_ble_eq_true hb
      rw [hb, cond_true] at h
      split at h
      · rename_i y o hf
        have hp0 : tv a = ptrV (ρ y) o := hrr.rel a _ hf
        split at h
        · rename_i T0 xs hy
          have hmm : (Nat.blt o mapT && !Nat.beq T0 mapT) = true := by
            cases hc : (Nat.blt o mapT && !Nat.beq T0 mapT) with
            | true => rfl
            | false => rw [hc] at h; cases h
          rw [hmm] at h
          simp only [Bool.not_true, cond_false] at h
          have hp : tv a = .pointer (some ⟨ρ y, o, none⟩) := hp0.trans (ptrV_ptr (and_mapT hmm).1)
          rw [htv a ht] at hp
          obtain ⟨vs, h1, h2⟩ := hrr.rel y _ hy
          rw [objV_row _ (and_mapT hmm).2] at h1
          split at h
          · rename_i m hm
            rw [Option.bind_eq_some_iff] at h
            obtain ⟨ds, h3, h4⟩ := h
            cases hb2 : Nat.beq ds.length m with
            | false => rw [hb2] at h4; cases h4
            | true =>
              rw [hb2] at h4
              cases h4
              have h5 := (h2.drop o).take m
              rw [plainCs_ok h3] at h5
              have h6 := h5.plain
              refine ⟨_, ?_, _, rfl, h6⟩
              have := run_load_agg (P := P) (p := ⟨ρ y, o, none⟩) hm (w := w) (vs := (vs.drop o).take m) (by rw [← h6.len, Nat.eq_of_beq_eq_true hb2]) (fun j v hj => by
                rw [addr_add, row_cell h1]
                rw [List.getElem?_take] at hj
                split at hj
                · rw [List.getElem?_drop] at hj; exact hj
                · cases hj)
              simp only [Instr.loadAt, Instr.sureAddr, Sem.run_bind, Sem.run_pure, Result.andThen_ok] at this
              simp only [resV, Sem.run_bind, hp, asAddr, Sem.run_pure, Result.andThen_ok]
              exact this
          · rename_i hm
            cases hb2 : plainT P T with
            | false => rw [hb2] at h; cases h
            | true =>
              rw [hb2, cond_true] at h
              split at h
              · rename_i d hd
                cases h
                obtain ⟨v, h4, h5⟩ := h2.get o _ hd
                refine ⟨v, ?_, h5.1⟩
                have := run_load_plain (P := P) (p := ⟨ρ y, o, none⟩) hb2 (w := w) (v := v) ((row_cell h1 o).trans h4)
                simp only [Instr.loadAt, Instr.sureAddr, Sem.run_bind, Sem.run_pure, Result.andThen_ok] at this
                simp only [resV, Sem.run_bind, hp, asAddr, Sem.run_pure, Result.andThen_ok]
                exact this
              · cases h
        · cases h
      · cases h
theorem resEs_ok {P : Program} {l : List (Nat × F)} {V : Addr → Prop} {ρ : Nat → Nat} {tv : Nat → Value} {w : World} {tmps : Array Value} (htv : ∀ t, t < 1000 → tv t = tmps.getD t undef) (hrr : RR V ρ tv w (find l)) : ∀ (xs : List ResultVar) (es : List E), resEs P l xs = some es →
    ∃ vs : List Value, (xs.mapM (resV tmps)).run P w = .ok vs w ∧ TIn (cold V (find l) ρ tv w) w es vs ∧ vs.length = xs.length
  | [], es, h => by cases h; exact ⟨[], rfl, trivial, rfl⟩
  | x :: r, es, h => by
    rw [resEs] at h
    split at h
    · rename_i e es' h1 h2
      cases h
      obtain ⟨v, h3, h4⟩ := resE_ok h1 htv hrr
      obtain ⟨vs, h5, h6, h7⟩ := resEs_ok htv hrr r es' h2
      refine ⟨v :: vs, ?_, ⟨h4, h6⟩, by simp [h7]⟩
      rw [List.mapM_cons, Sem.run_bind, h3, Result.andThen_ok, Sem.run_bind, h5]
      rfl
    · cases h

def Res (f : F) : Prop := match f with | .var _ _ | .ptr _ _ | .rel _ _ | .ob _ => False | _ => True
theorem RR.result {V : Addr → Prop} {ρ ρ' : Nat → Nat} {tv tv' : Nat → Value} {w : World} {l vs' : List (Nat × F)} {r : F} (h : RR V ρ tv w (find l)) (hr : Res r) (hvs : ∀ k f, find vs' k = some f → find l k = some f ∧ 1000 ≤ k ∧ tv' k = tv k) (hg : ∀ g, 1000 ≤ g → tv' g = tv g)
    (hρ : ∀ k f T xs, find vs' k = some f → IsV f T xs → ρ' k = ρ k) (hnp : ∀ k f x o, find vs' k = some f → ¬ IsRef f x o)
    (hown : (∃ t, t < 1000 ∧ find l t = some r ∧ tv' 0 = tv t) ∨ (Plain r ∧ FV (cold V (find l) ρ tv w) ρ w r (tv' 0))) :
    RR V ρ' tv' w (find ((0, r) :: vs')) ∧ ∀ p, vol (find ((0, r) :: vs')) ρ' tv' p → vol (find l) ρ tv p := by
  have hf0 : ∀ k f, find ((0, r) :: vs') k = some f → (k = 0 ∧ f = r) ∨ (k ≠ 0 ∧ find vs' k = some f) := by
    intro k f hk
    rw [find_cons] at hk
    by_cases e : 0 = k
    · rw [if_pos e] at hk; cases hk; exact .inl ⟨e.symm, rfl⟩
    · rw [if_neg e] at hk; exact .inr ⟨fun e2 => e e2.symm, hk⟩
  -- what a key alone may write: another key of the state before
  have hex : ∀ k f b, find ((0, r) :: vs') k = some f → ex ρ' tv' k f = some b → ∃ k0, find l k0 = some f ∧ ex ρ tv k0 f = some b ∧ (k = 0 → k0 < 1000) ∧ (k ≠ 0 → k0 = k ∧ 1000 ≤ k) := by
    intro k f b hk hb
    rcases hf0 k f hk with ⟨rfl, rfl⟩ | ⟨h0, hk'⟩
    · rcases hown with ⟨t, ht, hlt, htv⟩ | ⟨hp, _⟩
      · refine ⟨t, hlt, ?_, fun _ => ht, fun e => absurd rfl e⟩
        cases f with
        | own T sz els => simp only [ex, htv] at hb ⊢; exact hb
        | var T xs => exact hr.elim
        | ob p => exact hr.elim
        | _ => cases hb
      · rw [hp.ex] at hb; cases hb
    · obtain ⟨h1, h2, h3⟩ := hvs k f hk'
      refine ⟨k, h1, ?_, fun e => absurd e h0, fun _ => ⟨rfl, h2⟩⟩
      cases f with
      | own T sz els => simp only [ex, h3] at hb ⊢; exact hb
      | var T xs => simp only [ex, hρ k _ T xs hk' (.var T xs)] at hb ⊢; exact hb
      | ob p => simp only [ex, hρ k _ 0 [] hk' (.ob p 0 [])] at hb ⊢; exact hb
      | _ => cases hb
  have hvol : ∀ p, vol (find ((0, r) :: vs')) ρ' tv' p → vol (find l) ρ tv p := by
    rintro p ⟨k, f, h1, h2, h3⟩
    obtain ⟨k0, h4, h5, _⟩ := hex k f _ h1 h2
    exact ⟨k0, f, h4, h5, h3⟩
  have hcold : ∀ p, cold V (find l) ρ tv w p → cold V (find ((0, r) :: vs')) ρ' tv' w p := fun p hp => ⟨hp.1, hp.2.1, fun e => hp.2.2 (hvol p e)⟩
  refine ⟨h.to (Nat.le_refl _) (fun p hp => ⟨(hcold p hp).2.2, rfl⟩) (fun k f hk => ?_) (fun k f k' f' b h1 h2 h3 h4 => ?_) (fun k f b h1 h2 => ?_), hvol⟩
  · rcases hf0 k f hk with ⟨rfl, rfl⟩ | ⟨h0, hk'⟩
    · refine .inr (KV.fv ?_ (fun p e => by rw [e] at hr; exact hr))
      rcases hown with ⟨t, ht, hlt, htv⟩ | ⟨hp, hv⟩
      · rw [htv]
        have := h.rel t f hlt
        have hfv : FV (cold V (find l) ρ tv w) ρ w f (tv t) := by
          cases f with
          | var T xs => exact hr.elim
          | ob p => exact hr.elim
          | _ => exact this
        exact FV.mono (ρ := ρ) hcold (fun _ _ => rfl) (fun x o e => by rcases e with e | ⟨_, _, e, _⟩ <;> rw [e] at hr <;> exact hr.elim) (fun _ _ _ _ _ _ => rfl) hfv
      · exact FV.mono (ρ := ρ) hcold (fun _ _ => rfl) (fun x o e => by rcases e with e | ⟨_, _, e, _⟩ <;> rw [e] at hr <;> exact hr.elim) (fun _ _ _ _ _ _ => rfl) hv
    · obtain ⟨h1, h2, h3⟩ := hvs k f hk'
      exact .inl ⟨h1, h.same h1 h3 hg (fun T xs e => hρ k f T xs hk' e) (fun x o e => absurd e (hnp k f x o hk')) (fun _ _ => rfl)⟩
  · obtain ⟨a0, a1, a2, a3, a4⟩ := hex _ _ _ h1 h3
    obtain ⟨b0, b1, b2, b3, b4⟩ := hex _ _ _ h2 h4
    have e := h.dist _ _ _ _ _ a1 b1 a2 b2
    by_cases hk : k = 0 <;> by_cases hk' : k' = 0
    · omega
    · have := a3 hk; have := b4 hk'; omega
    · have := b3 hk'; have := a4 hk; omega
    · have := a4 hk; have := b4 hk'; omega
  · obtain ⟨a0, a1, a2, _, _⟩ := hex _ _ _ h1 h2
    exact h.exb _ _ _ a1 a2

inductive WkE : E → E → Prop
  | refl (x : E) : WkE x x
  | c {x y : D} : WkD x y → WkE (.c x) (.c y)
  | agg {xs ys : List D} : WkDs xs ys → WkE (.agg xs) (.agg ys)
def WkEs : List E → List E → Prop
  | [], [] => True
  | x :: xs, y :: ys => WkE x y ∧ WkEs xs ys
  | _, _ => False
inductive WkF : F → F → Prop
  | refl (x : F) : WkF x x
  | c {x y : D} : WkD x y → WkF (.c x) (.c y)
  | agg {xs ys : List D} : WkDs xs ys → WkF (.agg xs) (.agg ys)
  | tup {xs ys : List E} : WkEs xs ys → WkF (.tup xs) (.tup ys)
theorem WkE.ok {S : Addr → Prop} {w : World} {x y : E} {v : Value} (h : WkE x y) (hx : EIn S w x v) : EIn S w y v := by
  cases h with
  | refl => exact hx
  | c h => exact h.ok hx
  | agg h => obtain ⟨vs, h1, h2⟩ := hx; exact ⟨vs, h1, h.ok h2⟩
theorem WkEs.ok {S : Addr → Prop} {w : World} : ∀ {xs ys : List E} {vs : List Value}, WkEs xs ys → TIn S w xs vs → TIn S w ys vs
  | [], [], [], _, _ => trivial
  | _ :: _, _ :: _, _ :: _, hw, hl => ⟨hw.1.ok hl.1, WkEs.ok hw.2 hl.2⟩
  | [], [], _ :: _, _, h => h.elim
  | _ :: _, _ :: _, [], _, h => h.elim
  | [], _ :: _, _, h, _ => h.elim
  | _ :: _, [], _, h, _ => h.elim
theorem WkF.ok {S : Addr → Prop} {ρ : Nat → Nat} {w : World} {x y : F} {v : Value} (h : WkF x y) (hx : FV S ρ w x v) : FV S ρ w y v := by
  cases h with
  | refl => exact hx
  | c h => exact h.ok hx
  | agg h => obtain ⟨vs, h1, h2⟩ := hx; exact ⟨vs, h1, h.ok h2⟩
  | tup h => obtain ⟨vs, h1, h2⟩ := hx; exact ⟨vs, h1, h.ok h2⟩
theorem WkF.plain {x y : F} (h : WkF x y) (hp : Plain x) : Plain y := by
  cases h <;> first | exact hp | trivial
def retK (P : Program) (rs : List ResultVar) (r : F) (vs' : List (Nat × F)) : Cont := fun x l => (x = .ret ∨ x = .normal) ∧ ∃ r0, resF P l rs = some r0 ∧ WkF r0 r ∧ sub vs' l
def keysOK (vs : List (Nat × F)) (vs' : List (Nat × F)) (r : F) : Bool :=
  (vs.all fun (k, _) => Nat.ble 1000 k) && (vs'.all fun (k, f) => Nat.ble 1000 k && (match f with | .var _ _ => (vs.any fun (j, _) => Nat.beq k j) && Nat.ble 2000 k | .ob _ => (vs.any fun (j, _) => Nat.beq k j) && Nat.ble 2000 k | .own _ _ _ => true | _ => false)) && (match r with | .var _ _ | .ptr _ _ | .rel _ _ | .ob _ => false | _ => true)
def insOf (vs : List (Nat × F)) : List Nat := (vs.map (·.1)).filter fun k => Nat.ble 2000 k

theorem find_mem {l : List (Nat × F)} {k : Nat} {f : F} (h : find l k = some f) : (k, f) ∈ l := by
  induction l with
  | nil => cases h
  | cons x l ih =>
    obtain ⟨j, g⟩ := x
    rw [find_cons] at h
    by_cases e : j = k
    · rw [if_pos e] at h; cases h; rw [e]; exact List.mem_cons_self ..
    · rw [if_neg e] at h; exact List.mem_cons_of_mem _ (ih h)

theorem con_intro {P : Program} {f : FuncId} {fn : Func} {c : Code} {fs : List F} {vs vs' : List (Nat × F)} {r : F} (hf : P.funcs[f]? = some fn) (hb : fn.body = some c) (hn : (Nat.ble fs.length fn.ntmps && Nat.ble fn.ntmps 1000) = true) (hko : keysOK vs vs' r = true)
    (h : J P fn.ntmps (insOf vs) (ini fs vs) c (retK P fn.results.toList r vs')) : Con P f fs vs r vs' := by
  intro V ρ tv w args B hsz htv hrr htt hBv hBw
  rw [Bool.and_eq_true] at hn
  have hn1 := Nat.le_of_ble_eq_true hn.1
  have hn2 := Nat.le_of_ble_eq_true hn.2
  unfold keysOK at hko
  rw [Bool.and_eq_true, Bool.and_eq_true] at hko
  obtain ⟨⟨hk1, hk2⟩, hk3⟩ := hko
  have hres : Res r := by cases r <;> first | trivial | cases hk3
  have hvsk : ∀ k g, find vs k = some g → 1000 ≤ k := fun k g hkg => by
    rw [List.all_eq_true] at hk1
    exact Nat.le_of_ble_eq_true (hk1 _ (find_mem hkg))
  let tmps : Array Value := args ++ Array.replicate (fn.ntmps - args.size) undef
  let tv1 : Nat → Value := fun k => if k < 1000 then tmps.getD k undef else tv k
  have htmps : tmps.size = fn.ntmps := by simp [tmps]; omega
  have hkeys : ∀ k g, find (ini fs vs) k = some g → k < fs.length ∨ 1000 ≤ k := by
    intro k g hk
    unfold ini at hk
    rw [find_append, find_nums] at hk
    simp only [Nat.zero_le, if_true, Nat.sub_zero] at hk
    rcases Nat.lt_or_ge k fs.length with h1 | h1
    · exact .inl h1
    · rw [List.getElem?_eq_none h1] at hk
      exact .inr (hvsk k g hk)
  have htv1 : ∀ k g, find (ini fs vs) k = some g → tv1 k = tv k := by
    intro k g hk
    rcases hkeys k g hk with h1 | h1
    · show (if k < 1000 then _ else _) = _
      rw [if_pos (by omega), htv k (by omega)]
      simp only [tmps, Array.getD_eq_getD_getElem?]
      rw [Array.getElem?_append_left (by omega)]
    · show (if k < 1000 then _ else _) = _
      rw [if_neg (by omega)]
  have hg1 : ∀ g, 1000 ≤ g → tv1 g = tv g := fun g hg => by show (if g < 1000 then _ else _) = _; rw [if_neg (by omega)]
  have hex1 : ∀ k g, find (ini fs vs) k = some g → ex ρ tv1 k g = ex ρ tv k g := fun k g hk => by
    cases g <;> simp only [ex, htv1 k _ hk]
  have hvol1 : ∀ p, vol (find (ini fs vs)) ρ tv1 p ↔ vol (find (ini fs vs)) ρ tv p := fun p =>
    ⟨fun ⟨k, g, h1, h2, h3⟩ => ⟨k, g, h1, by rw [← hex1 k g h1]; exact h2, h3⟩, fun ⟨k, g, h1, h2, h3⟩ => ⟨k, g, h1, by rw [hex1 k g h1]; exact h2, h3⟩⟩
  have hrr1 : RR V ρ tv1 w (find (ini fs vs)) := hrr.to (Nat.le_refl _) (fun p hp => ⟨fun e => hp.2.2 ((hvol1 p).1 e), rfl⟩)
    (fun k g hk => .inl ⟨hk, hrr.same hk (htv1 k g hk) hg1 (fun _ _ _ => rfl) (fun _ _ _ => rfl) (fun _ _ => rfl)⟩)
    (fun k g k' g' b h1 h2 h3 h4 => hrr.dist k g k' g' b h1 h2 (by rw [← hex1 k g h1]; exact h3) (by rw [← hex1 k' g' h2]; exact h4)) (fun k g b h1 h2 => hrr.exb k g b h1 (by rw [← hex1 k g h1]; exact h2))
  let e : Env := { V := V, ρ0 := ρ, ins := insOf vs, w0 := w, vol0 := vol (find (ini fs vs)) ρ tv, n := fn.ntmps, B := B, tt := htt, hv := hBv, hB := hBw }
  refine calls_of_wp hf hb (wpIn_wide.1 (h none e _ rfl rfl ?_ _ _ ?_))
  · intro x l' a' w' hK hR
    obtain ⟨hx, r0, hrf, hwk, hsub⟩ := hK
    obtain ⟨hdf, hsz', hfr, ρ', tv', htv', hin, hvz, hrr'⟩ := hR
    have hsub' := sub_ok hsub
    have key0 : ∃ v, (results fn a'.tmps).run P w' = .ok v w' ∧ ((∃ t, t < 1000 ∧ find l' t = some r0 ∧ v = tv' t) ∨ (Plain r0 ∧ FV (cold V (find l') ρ' tv' w') ρ' w' r0 v)) := by
      rw [results_eq]
      have hgen : ∀ es, resEs P l' fn.results.toList = some es → ∃ vs : List Value, (fn.results.mapM (resV a'.tmps)).run P w' = .ok vs.toArray w' ∧ TIn (cold V (find l') ρ' tv' w') w' es vs ∧ vs.length = fn.results.size := by
        intro es hes
        obtain ⟨us, h1, h2, h3⟩ := resEs_ok htv' hrr' _ _ hes
        refine ⟨us, ?_, h2, by simpa using h3⟩
        rw [Array.mapM_eq_mapM_toList]
        change Sem.run P (List.mapM _ fn.results.toList >>= fun a => pure a.toArray) w' = _
        rw [Sem.run_bind, h1]
        rfl
      have hone : ∀ (x : ResultVar) (v : Value), fn.results.toList = [x] → (resV a'.tmps x).run P w' = .ok v w' →
          (do let vs ← fn.results.mapM (resV a'.tmps); pure (if h : vs.size = 1 then vs[0] else .tuple vs) : Sem Value).run P w' = .ok v w' := by
        intro x v hx hrun
        rw [Sem.run_bind, Array.mapM_eq_mapM_toList]
        change (Sem.run P (List.mapM _ fn.results.toList >>= fun a => pure a.toArray) w').andThen _ = _
        rw [hx, Sem.run_bind, List.mapM_cons, Sem.run_bind, hrun]
        rfl
      unfold resF at hrf
      split at hrf
      · rename_i t ht
        cases hb2 : Nat.blt t 1000 with
        | false => rw [hb2] at hrf; cases hrf
        | true =>
          have ht2 : t < 1000 := Nat.le_of_ble_eq_true hb2
          rw [hb2, cond_true] at hrf
          have hfl : find l' t = some r0 := by
            split at hrf
            · cases hrf
            · cases hrf
            · exact hrf
          exact ⟨tv' t, hone _ _ ht (by rw [htv' t ht2]; rfl), .inl ⟨t, ht2, hfl, rfl⟩⟩
      · rename_i x hx1 hx2
        rw [Option.map_eq_some_iff] at hrf
        obtain ⟨ee, h1, h2⟩ := hrf
        obtain ⟨v, h3, h4⟩ := resE_ok h1 htv' hrr'
        refine ⟨v, hone _ _ (by assumption) h3, .inr ?_⟩
        cases ee with
        | c d => subst h2; exact ⟨trivial, h4⟩
        | agg ds => subst h2; exact ⟨trivial, h4⟩
      · rename_i hx1 hx2
        rw [Option.map_eq_some_iff] at hrf
        obtain ⟨es, h1, h2⟩ := hrf
        obtain ⟨us, h3, h4, h5⟩ := hgen es h1
        refine ⟨.tuple us.toArray, ?_, .inr (by subst h2; exact ⟨trivial, us, rfl, h4⟩)⟩
        rw [Sem.run_bind, h3, Result.andThen_ok]
        have : ¬ us.toArray.size = 1 := by
          intro e1
          have e2 : fn.results.toList.length = 1 := by simp at e1; rw [Array.length_toList]; omega
          obtain ⟨x, hx⟩ := List.length_eq_one_iff.1 e2
          cases x with
          | tmp t => exact hx1 t hx
          | cell a t => exact hx2 _ hx
        rw [dif_neg this]
        rfl
    have key : ∃ v, (results fn a'.tmps).run P w' = .ok v w' ∧ ((∃ t, t < 1000 ∧ find l' t = some r ∧ v = tv' t) ∨ (Plain r ∧ FV (cold V (find l') ρ' tv' w') ρ' w' r v)) := by
      obtain ⟨v, h1, h2⟩ := key0
      refine ⟨v, h1, ?_⟩
      rcases h2 with ⟨t, h3, h4, h5⟩ | ⟨h3, h4⟩
      · cases hwk with
        | refl => exact .inl ⟨t, h3, h4, h5⟩
        | c hq => exact .inr ⟨trivial, h5 ▸ hq.ok (hrr'.rel t _ h4)⟩
        | agg hq => exact .inr ⟨trivial, h5 ▸ (WkF.agg hq).ok (show FV _ _ _ (.agg _) _ from hrr'.rel t _ h4)⟩
        | tup hq => exact .inr ⟨trivial, h5 ▸ (WkF.tup hq).ok (show FV _ _ _ (.tup _) _ from hrr'.rel t _ h4)⟩
      · exact .inr ⟨hwk.plain h3, hwk.ok h4⟩
    obtain ⟨v, hrun, hcase⟩ := key
    have hvs' : ∀ k g, find vs' k = some g → 1000 ≤ k ∧ (∀ T xs, IsV g T xs → k ∈ insOf vs) ∧ ∀ x o, ¬ IsRef g x o := fun k g hkg => by
      rw [List.all_eq_true] at hk2
      have := hk2 _ (find_mem hkg)
      rw [Bool.and_eq_true] at this
      refine ⟨Nat.le_of_ble_eq_true this.1, fun T xs e => ?_, fun x o e => ?_⟩
      · have h2 : ((vs.any fun (j, _) => Nat.beq k j) && Nat.ble 2000 k) = true := by
          cases e <;> exact this.2
        rw [Bool.and_eq_true, List.any_eq_true] at h2
        obtain ⟨⟨⟨j, g'⟩, hm, hj⟩, hb⟩ := h2
        refine List.mem_filter.2 ⟨?_, hb⟩
        rw [Nat.eq_of_beq_eq_true hj]
        exact List.mem_map.2 ⟨_, hm, rfl⟩
      · rcases e with e | ⟨_, _, e, _⟩ <;> subst e <;> exact Bool.noConfusion this.2
    let tv2 : Nat → Value := fun k => if k = 0 then v else tv' k
    have hres2 := hrr'.result (ρ' := ρ) (tv' := tv2) (vs' := vs') hres (fun k g hkg => ⟨hsub' k g hkg, (hvs' k g hkg).1, by
        show (if k = 0 then _ else _) = _
        rw [if_neg (by have := (hvs' k g hkg).1; omega)]⟩) (fun g hg => by show (if g = 0 then _ else _) = _; rw [if_neg (by omega)]) (fun k f T xs hk hv => (hin k ((hvs' k f hk).2.1 T xs hv)).symm) (fun k f x o hk hr => (hvs' k f hk).2.2 x o hr)
      (by
        rcases hcase with ⟨t, ht, hlt, hv⟩ | ⟨hp, hv⟩
        · exact .inl ⟨t, ht, hlt, by show (if 0 = 0 then v else _) = _; rw [if_pos rfl, hv]⟩
        · exact .inr ⟨hp, by show FV _ _ _ r (if 0 = 0 then v else _); rw [if_pos rfl]; exact hv⟩)
    have hpost : ∃ v, (results fn a'.tmps).run P w' = .ok v w' ∧ (fun e w' => ∃ v tv', e = Ending.returned v ∧ tv' 0 = v ∧ Fr (vol (find (ini fs vs)) ρ tv) w w' ∧ RR V ρ tv' w' (find ((0, r) :: vs')) ∧ ∀ p, vol (find ((0, r) :: vs')) ρ tv' p → vol (find (ini fs vs)) ρ tv p ∨ w.heap.size ≤ p.block) (.returned v) w' :=
      ⟨v, hrun, v, tv2, rfl, if_pos rfl, hfr, hres2.1, fun p hp => hvz p (hres2.2 p hp)⟩
    rcases hx with rfl | rfl
    · exact ⟨hdf, hpost⟩
    · exact ⟨hdf, hpost⟩
  · exact ⟨rfl, htmps, Fr.refl _ _, ρ, tv1, fun t ht => by show (if t < 1000 then _ else _) = _; rw [if_pos ht], fun _ _ => rfl, fun p hp => .inl ((hvol1 p).1 hp), hrr1⟩

end Go.Proofs.YtlagglkpbnbmeaaGreatDoor

/- Shadows: a call. -/
namespace Go.Proofs.YtlagglkpbnbmeaaGreatDoor
set_option linter.unusedVariables false
open Go Go.RowKit

def argsF (l : List (Nat × F)) : List Operand → Option (List F)
  | [] => some []
  | x :: r => match opd l x, argsF l r with
    | some (.var _ _), _ => none
    | some (.ob _), _ => none
    | some f, some fs => some (f :: fs)
    | _, _ => none
theorem argsF_get {l : List (Nat × F)} : ∀ {xs : List Operand} {fs : List F}, argsF l xs = some fs → fs.length = xs.length ∧ ∀ (i : Nat) (f : F), fs[i]? = some f → ∃ x, xs[i]? = some x ∧ opd l x = some f ∧ (∀ T ys, f ≠ .var T ys) ∧ ∀ p, f ≠ .ob p
  | [], fs, h => by cases h; exact ⟨rfl, fun i f h => by simp at h⟩
  | x :: r, fs, h => by
    rw [argsF] at h
    split at h
    · cases h
    · cases h
    · rename_i f gs hnv hnb h1 h2
      cases h
      obtain ⟨h3, h4⟩ := argsF_get h2
      refine ⟨by simp [h3], fun i g hg => ?_⟩
      cases i with
      | zero => simp at hg; subst hg; exact ⟨x, rfl, h1, fun T ys e => hnv T ys e, fun p e => hnb p e⟩
      | succ i =>
        obtain ⟨y, h5, h6⟩ := h4 i g (by simpa using hg)
        exact ⟨y, by simpa using h5, h6⟩
    · cases h
def isOwn : F → Bool
  | .own _ _ _ => true
  | _ => false
def ownKeys (l : List (Nat × F)) (xs : List Operand) : List Nat := xs.filterMap fun
  | .tmp t => (match find l t with | some (.own _ _ _) => some t | _ => none)
  | _ => none
def oneOwn (fs : List F) : Bool := (List.range fs.length).all fun i => (List.range fs.length).all fun j => Nat.beq i j || !(match fs[i]?, fs[j]? with | some f, some g => isOwn f && isOwn g | _, _ => false)
def callOK (P : Program) (f : FuncId) : Bool := match P.funcs[f]? with
  | some fn => !(fn.name == "runtime.NumGoroutine") && fn.body.isSome
  | none => false
def ghostsOK (vs' : List (Nat × F)) : Bool := vs'.all fun (_, f) => match f with | .var _ xs => xs.all (fun | .gh g => vs'.any (fun (j, _) => Nat.beq g j) | _ => true) | _ => true
def frCall (vs vs' : List (Nat × F)) : List (Nat × List Nat) := (vs'.filter fun x => Nat.blt x.1 2000).map fun x => (x.1, vs.map (·.1))
def postCall (l : List (Nat × F)) (d : Nat) (r : F) (xs : List Operand) (vs vs' : List (Nat × F)) : List (Nat × F) := (d, r) :: (vs' ++ (ownKeys l xs ++ vs.map (·.1)).map fun k => (k, .non))

theorem run_call {P : Program} {o : Oper} {f : FuncId} {args : Array Operand} {ts : Array TypeId} (ho : o.op = .call { callee := .value (.func f), args := args, argTypes := ts }) (hc : callOK P f = true) (a : Act) (w : World) :
    (execOp a.eval o).run P w = .ok (.enter f (args.map a.eval)) w := by
  unfold callOK at hc
  cases hf : P.funcs[f]? with
  | none => rw [hf] at hc; cases hc
  | some fn =>
    rw [hf] at hc
    simp only [Bool.and_eq_true, Bool.not_eq_true'] at hc
    have hb : fn.body.isNone = false := by
      cases h : fn.body with
      | none => rw [h] at hc; exact absurd hc.2 (by decide)
      | some c => rfl
    simp only [execOp, ho, resolve, Act.eval, Deferred.ofValue, Sem.run_bind, Sem.run_pure, Result.andThen_ok, invoke, callFunc, Array.empty_append, Array.append_empty]
    have hp : (program).run P w = .ok P w := rfl
    simp only [hp, Result.andThen_ok, hf, hc.1, hb, Bool.false_eq_true, if_false, Sem.run_pure]

theorem find_append_none {l r : List (Nat × F)} {k : Nat} {f : F} (h : find (l ++ r) k = some f) : find l k = some f ∨ (find l k = none ∧ find r k = some f) := by
  rw [find_append] at h
  cases hl : find l k with
  | none => rw [hl] at h; exact .inr ⟨rfl, h⟩
  | some g => rw [hl] at h; exact .inl h
theorem find_nons {ks : List Nat} {k : Nat} {f : F} (h : find (ks.map fun k => (k, F.non)) k = some f) : k ∈ ks ∧ f = .non := by
  have := find_mem h
  obtain ⟨j, h1, h2⟩ := List.mem_map.1 this
  cases h2
  exact ⟨h1, rfl⟩
theorem find_nons_none {ks : List Nat} {k : Nat} (h : find (ks.map fun k => (k, F.non)) k = none) : k ∉ ks := by
  intro hm
  induction ks with
  | nil => simp at hm
  | cons j ks ih =>
    rw [List.map_cons, find_cons] at h
    by_cases e : j = k
    · rw [if_pos e] at h; cases h
    · rw [if_neg e] at h
      rcases List.mem_cons.1 hm with h1 | h1
      · exact e h1.symm
      · exact ih h h1

theorem Does.call {P : Program} {o : Oper} {l : List (Nat × F)} {d : Nat} {args : Array Operand} {fs : List F} {vs vs' : List (Nat × F)} {r : F} {rdx : List Nat}
    (hG : ∀ (S : Addr → Prop) (tv0 : Nat → Value) (V : Addr → Prop) (ρ : Nat → Nat) (tv : Nat → Value) (w : World) (a : Act) (B : Nat), View l rdx S ρ tv0 a w → (args.map a.eval).size = fs.length → (∀ i, i < (args.map a.eval).size → tv i = (args.map a.eval).getD i undef) → RR V ρ tv w (find (ini fs vs)) → TT B w →
      (∀ p, vol (find (ini fs vs)) ρ tv p → B ≤ p.block) → B ≤ w.heap.size → ∀ next : Act → World → Prop, (∀ v tv' w', tv' 0 = v → Fr (vol (find (ini fs vs)) ρ tv) w w' → RR V ρ tv' w' (find ((0, r) :: vs')) → (∀ p, vol (find ((0, r) :: vs')) ρ tv' p → vol (find (ini fs vs)) ρ tv p ∨ w.heap.size ≤ p.block) → next (a.put o.dst v) w') → wq P o a w next)
    (hd : o.dst = some d) (ha : argsF l args.toList = some fs) (hvs : sub vs l) (hck : (keysOK vs vs' r && oneOwn fs && ghostsOK vs' && Nat.ble fs.length 1000) = true) :
    Does P o ((args.toList.flatMap rdOf ++ vs.map (·.1)) ++ rdx) (frCall vs vs') l (postCall l d r args.toList vs vs') := by
  simp only [Bool.and_eq_true] at hck
  obtain ⟨⟨⟨hko, hone⟩, hgh⟩, hlen1000⟩ := hck
  have hl1000 := Nat.le_of_ble_eq_true hlen1000
  unfold keysOK at hko
  rw [Bool.and_eq_true, Bool.and_eq_true] at hko
  obtain ⟨⟨hk1, hk2⟩, hk3⟩ := hko
  have hvs0 := sub_ok hvs
  have hvsk : ∀ k, k ∈ vs.map (·.1) → 1000 ≤ k := fun k hk => by
    obtain ⟨⟨j, g⟩, h1, rfl⟩ := List.mem_map.1 hk
    rw [List.all_eq_true] at hk1
    exact Nat.le_of_ble_eq_true (hk1 _ h1)
  have hvsk' : ∀ k g, find vs' k = some g → 1000 ≤ k := fun k g hkg => by
    rw [List.all_eq_true] at hk2
    have := hk2 _ (find_mem hkg)
    rw [Bool.and_eq_true] at this
    exact Nat.le_of_ble_eq_true this.1
  obtain ⟨hlen, hget⟩ := argsF_get ha
  have hmemv : ∀ k g, find vs k = some g → k ∈ vs.map (·.1) := fun k g h => List.mem_map.2 ⟨_, find_mem h, rfl⟩
  have hownk : ∀ t, t ∈ ownKeys l args.toList → t < 1000 ∨ True := fun _ _ => .inr trivial
  intro e σ a w next Q hn hdn hσ0 hfresh hR hnext
  have hσ : ∀ k, k ∈ args.toList.flatMap rdOf ++ vs.map (·.1) → σ k = find l k := fun k hk => hσ0 k (List.mem_append_left _ hk)
  obtain ⟨hdf, hsz, hfr, ρ, tv, htv, hin, hvz, hrr⟩ := hR
  have hview2 := view_of (rd := rdx) (l := l) (fun k hk => hσ0 k (List.mem_append_right _ hk)) htv hrr
  have hdlt : d < 1000 := Nat.lt_of_lt_of_le (hdn d hd) hn
  have hview := view_of hσ htv hrr
  -- an argument that is owned is a temporary
  have hown : ∀ (i : Nat) (T : TypeId) (sz : Nat) (els : List (List D)), fs[i]? = some (.own T sz els) → ∃ t, t < 1000 ∧ args.toList[i]? = some (.tmp t) ∧ t ∈ ownKeys l args.toList ∧ σ t = some (.own T sz els) := by
    intro i T sz els hi
    obtain ⟨x, hx, hox, _⟩ := hget i _ hi
    cases x with
    | tmp t =>
      simp only [opd] at hox
      cases hb : Nat.blt t 1000 with
      | false => rw [hb] at hox; cases hox
      | true =>
        rw [hb, cond_true] at hox
        have ht : t < 1000 := Nat.le_of_ble_eq_true hb
        have hmem := List.mem_of_getElem? hx
        refine ⟨t, ht, hx, List.mem_filterMap.2 ⟨_, hmem, by simp only [hox]⟩, ?_⟩
        rw [hσ t (List.mem_append_left _ (List.mem_flatMap.2 ⟨_, hmem, by simp [rdOf]⟩))]
        exact hox
    | const v =>
      simp only [opd, cst] at hox
      cases v <;> first | (cases hox; done) | (simp only at hox; cases hox; done) | skip
      rename_i cs
      cases hb : cs.all (·.oneCell') <;> simp [hb] at hox
    | global g => cases hox
    | func g => cases hox
  have hownlt : ∀ t, t ∈ ownKeys l args.toList → t < 1000 ∧ σ t = find l t ∧ ∃ T sz els, find l t = some (.own T sz els) := by
    intro t ht
    obtain ⟨x, hx, hxt⟩ := List.mem_filterMap.1 ht
    cases x with
    | tmp t' =>
      simp only at hxt
      cases hf : find l t' with
      | none => rw [hf] at hxt; cases hxt
      | some g =>
        rw [hf] at hxt
        cases g with
        | own T sz els =>
          cases hxt
          obtain ⟨i, hi, hie⟩ := List.getElem_of_mem hx
          have hfi : ∃ g, fs[i]? = some g := ⟨fs[i]'(by omega), List.getElem?_eq_getElem (by omega)⟩
          obtain ⟨g, hg⟩ := hfi
          obtain ⟨y, hy, hoy, _⟩ := hget i g hg
          rw [List.getElem?_eq_getElem hi, hie] at hy
          cases hy
          have ht1 : t < 1000 := by
            simp only [opd] at hoy
            cases hb : Nat.blt t 1000 with
            | false => rw [hb] at hoy; cases hoy
            | true => exact Nat.le_of_ble_eq_true hb
          exact ⟨ht1, hσ t (List.mem_append_left _ (List.mem_flatMap.2 ⟨_, hx, by simp [rdOf]⟩)), T, sz, els, hf⟩
        | _ => cases hxt
    | _ => cases hxt
  have hσvs : ∀ k g, find vs k = some g → σ k = some g := fun k g hk => by
    rw [hσ k (List.mem_append_right _ (hmemv k g hk))]
    exact hvs0 k g hk
  let vals : Array Value := args.map a.eval
  let tvc : Nat → Value := fun k => if k < 1000 then vals.getD k undef else tv k
  let σr : Sta := fun k => if k ∈ vs.map (·.1) ∨ k ∈ ownKeys l args.toList then none else σ k
  let V' : Addr → Prop := fun p => e.V p ∨ vol σr ρ tv p
  have hσr : ∀ k g, σr k = some g → σ k = some g ∧ k ∉ vs.map (·.1) ∧ k ∉ ownKeys l args.toList := by
    intro k g h
    have h' : (if k ∈ vs.map (·.1) ∨ k ∈ ownKeys l args.toList then none else σ k) = some g := h
    by_cases hc : k ∈ vs.map (·.1) ∨ k ∈ ownKeys l args.toList
    · rw [if_pos hc] at h'; cases h'
    · rw [if_neg hc] at h'; exact ⟨h', fun e => hc (.inl e), fun e => hc (.inr e)⟩
  have hvolr : ∀ p, vol σr ρ tv p → vol σ ρ tv p := fun p ⟨k, g, h1, h2, h3⟩ => ⟨k, g, (hσr k g h1).1, h2, h3⟩
  have hvalsz : vals.size = fs.length := by simp [vals, hlen]
  have hval : ∀ (i : Nat) (x : Operand), args.toList[i]? = some x → tvc i = a.eval x := by
    intro i x hx
    have hi : i < args.toList.length := by
      rcases Nat.lt_or_ge i args.toList.length with h | h
      · exact h
      · rw [List.getElem?_eq_none h] at hx; cases hx
    show (if i < 1000 then _ else _) = _
    rw [if_pos (by omega)]
    simp only [vals, Array.getD_eq_getD_getElem?, Array.getElem?_map]
    rw [← Array.getElem?_toList, hx]
    rfl
  have hini : ∀ k g, find (ini fs vs) k = some g → (k < fs.length ∧ fs[k]? = some g) ∨ (find vs k = some g ∧ 1000 ≤ k) := by
    intro k g hk
    unfold ini at hk
    rcases find_append_none hk with h | ⟨_, h⟩
    · rw [find_nums] at h
      simp only [Nat.zero_le, if_true, Nat.sub_zero] at h
      refine .inl ⟨?_, h⟩
      rcases Nat.lt_or_ge k fs.length with h1 | h1
      · exact h1
      · rw [List.getElem?_eq_none h1] at h; cases h
    · exact .inr ⟨h, hvsk k (hmemv k g h)⟩
  have hexc : ∀ k g b, find (ini fs vs) k = some g → ex ρ tvc k g = some b → ∃ k0, σ k0 = some g ∧ ex ρ tv k0 g = some b ∧ ((k < fs.length ∧ k0 < 1000 ∧ k0 ∈ ownKeys l args.toList ∧ isOwn g = true) ∨ (1000 ≤ k ∧ k0 = k ∧ k ∈ vs.map (·.1))) := by
    intro k g b hk hb
    rcases hini k g hk with ⟨h1, h2⟩ | ⟨h1, h2⟩
    · cases g with
      | own T sz els =>
        obtain ⟨t, ht, hx, hm, hs⟩ := hown k T sz els h2
        refine ⟨t, hs, ?_, .inl ⟨h1, ht, hm, rfl⟩⟩
        simp only [ex] at hb ⊢
        rw [hval k _ hx] at hb
        rw [show tv t = a.eval (.tmp t) from htv t ht]
        exact hb
      | var T xs =>
        obtain ⟨_, _, _, h3, _⟩ := hget k _ h2
        exact absurd rfl (h3 T xs)
      | ob p =>
        obtain ⟨_, _, _, _, h3⟩ := hget k _ h2
        exact absurd rfl (h3 p)
      | _ => cases hb
    · refine ⟨k, hσvs k g h1, ?_, .inr ⟨h2, rfl, hmemv k g h1⟩⟩
      have : tvc k = tv k := by show (if k < 1000 then _ else _) = _; rw [if_neg (by omega)]
      cases g <;> simp only [ex, this] at hb ⊢ <;> exact hb
  have hvolc : ∀ p, vol (find (ini fs vs)) ρ tvc p → vol σ ρ tv p := by
    rintro p ⟨k, g, h1, h2, h3⟩
    obtain ⟨k0, h4, h5, _⟩ := hexc k g _ h1 h2
    exact ⟨k0, g, h4, h5, h3⟩
  have hcold0 : ∀ p, cold e.V σ ρ tv w p → cold V' (find (ini fs vs)) ρ tvc w p := fun p hp =>
    ⟨hp.1, fun h => h.elim hp.2.1 (fun h => hp.2.2 (hvolr p h)), fun h => hp.2.2 (hvolc p h)⟩
  have hgc : ∀ g, 1000 ≤ g → tvc g = tv g := fun g hg => by show (if g < 1000 then _ else _) = _; rw [if_neg (by omega)]
  have hrr0 : RR V' ρ tvc w (find (ini fs vs)) := by
    refine ⟨fun p hp => ?_, fun k g hk => ?_, fun k g k' g' b h1 h2 h3 h4 => ?_, fun k g b h1 h2 => ?_⟩
    · rcases hp with hp | ⟨k, g, h1, h2, _⟩
      · exact hrr.vb p hp
      · exact (hrr.exb k g _ (hσr k g h1).1 h2).1
    · rcases hini k g hk with ⟨h1, h2⟩ | ⟨h1, h2⟩
      · obtain ⟨x, hx, hox, hnv, hnb⟩ := hget k g h2
        have hmem := List.mem_of_getElem? hx
        have hfv := hview.fv hox (fun j hj => List.mem_append_left _ (List.mem_flatMap.2 ⟨_, hmem, hj⟩)) hnv
        refine KV.fv ?_ hnb
        rw [hval k x hx]
        exact FV.mono (ρ := ρ) (w := w) hcold0 (fun _ _ => rfl) (fun _ _ _ => rfl) (fun _ _ _ _ _ _ => rfl) hfv
      · have hs := hσvs k g h1
        exact (hrr.rel k g hs).mono hcold0 (fun _ _ => rfl) (hrr.same hs (hgc k h2) hgc (fun _ _ _ => rfl) (fun _ _ _ => rfl) (fun _ _ => rfl))
    · obtain ⟨k0, a1, a2, a3⟩ := hexc _ _ _ h1 h3
      obtain ⟨k0', b1, b2, b3⟩ := hexc _ _ _ h2 h4
      have heq := hrr.dist _ _ _ _ _ a1 b1 a2 b2
      rcases a3 with ⟨a3, a4, a5, a6⟩ | ⟨a3, a4, a5⟩ <;> rcases b3 with ⟨b3, b4, b5, b6⟩ | ⟨b3, b4, b5⟩
      · unfold oneOwn at hone
        rw [List.all_eq_true] at hone
        have h5 := hone k (List.mem_range.2 a3)
        rw [List.all_eq_true] at h5
        have h6 := h5 k' (List.mem_range.2 b3)
        rcases hini k g h1 with ⟨_, c1⟩ | ⟨_, c1⟩
        · rcases hini k' g' h2 with ⟨_, c2⟩ | ⟨_, c2⟩
          · rw [c1, c2] at h6
            simp only [a6, b6, Bool.and_self, Bool.not_true, Bool.or_false] at h6
            exact Nat.eq_of_beq_eq_true h6
          · omega
        · omega
      · omega
      · omega
      · omega
    · obtain ⟨k0, a1, a2, a3⟩ := hexc _ _ _ h1 h2
      obtain ⟨b1, b2⟩ := hrr.exb _ _ _ a1 a2
      refine ⟨b1, fun p hp hV => ?_⟩
      rcases hV with hV | ⟨k1, g1, c1, c2, _⟩
      · exact b2 p hp hV
      · obtain ⟨d1, d2, d3⟩ := hσr k1 g1 c1
        have heq := hrr.dist _ _ _ _ _ a1 d1 a2 (by rw [← hp]; exact c2)
        rcases a3 with ⟨_, _, a5, _⟩ | ⟨_, a4, a5⟩
        · exact d3 (heq ▸ a5)
        · exact d2 (by rw [← heq, a4]; exact a5)
  have hbel : Below e.B e.w0 w := hfr.belowB e.hv e.hB
  refine hG _ _ V' ρ tvc w a e.B hview2 hvalsz (fun i hi => ?_) hrr0 (e.tt.below hbel) (fun p hp => ?_) (Nat.le_trans e.hB hfr.size) next ?_
  · show (if i < 1000 then _ else _) = _
    have hi' : i < fs.length := hvalsz ▸ hi
    rw [if_pos (by omega)]
  · rcases hvz p (hvolc p hp) with h | h
    · exact e.hv p h
    · have := e.hB; omega
  rintro v tv' w' hv0 hFr hrr' hvz'
  rw [hd]
  have hres' : ∀ k g, find ((0, r) :: vs') k = some g → (k = 0 ∧ g = r) ∨ (1000 ≤ k ∧ find vs' k = some g) := by
    intro k g hk
    rw [find_cons] at hk
    by_cases e0 : 0 = k
    · rw [if_pos e0] at hk; cases hk; exact .inl ⟨e0.symm, rfl⟩
    · rw [if_neg e0] at hk; exact .inr ⟨hvsk' k g hk, hk⟩
  let tvn : Nat → Value := fun k => if k = d then v else if (find vs' k).isSome = true then tv' k else tv k
  have hnew : ∀ k g, upd σ (postCall l d r args.toList vs vs') k = some g → (k = d ∧ g = r) ∨ (k ≠ d ∧ find vs' k = some g) ∨ g = .non ∨ (k ≠ d ∧ find vs' k = none ∧ σr k = some g) := by
    intro k g hk
    unfold upd postCall at hk
    cases hp : find ((d, r) :: (vs' ++ (ownKeys l args.toList ++ vs.map (·.1)).map fun k => (k, .non))) k with
    | some g' =>
      rw [hp] at hk
      cases hk
      rw [find_cons] at hp
      by_cases e0 : d = k
      · rw [if_pos e0] at hp; cases hp; exact .inl ⟨e0.symm, rfl⟩
      · rw [if_neg e0] at hp
        rcases find_append_none hp with h | ⟨_, h⟩
        · exact .inr (.inl ⟨fun e => e0 e.symm, h⟩)
        · exact .inr (.inr (.inl (find_nons h).2))
    | none =>
      rw [hp] at hk
      rw [find_cons] at hp
      by_cases e0 : d = k
      · rw [if_pos e0] at hp; cases hp
      · rw [if_neg e0, find_append] at hp
        cases hv : find vs' k with
        | some g' => rw [hv] at hp; cases hp
        | none =>
          rw [hv] at hp
          have hnm := find_nons_none hp
          refine .inr (.inr (.inr ⟨fun e => e0 e.symm, rfl, ?_⟩))
          show (if k ∈ vs.map (·.1) ∨ k ∈ ownKeys l args.toList then none else σ k) = some g
          rw [if_neg (fun h => hnm (h.elim (List.mem_append_right _) (List.mem_append_left _)))]
          exact hk
  have hex' : ∀ k g b, upd σ (postCall l d r args.toList vs vs') k = some g → ex ρ tvn k g = some b → (∃ k0, find ((0, r) :: vs') k0 = some g ∧ ex ρ tv' k0 g = some b ∧ ((k = d ∧ k0 = 0) ∨ (k ≠ d ∧ k0 = k ∧ 1000 ≤ k))) ∨ (σr k = some g ∧ ex ρ tv k g = some b ∧ k ≠ d ∧ find vs' k = none) := by
    intro k g b hk hb
    rcases hnew k g hk with ⟨rfl, rfl⟩ | ⟨h1, h2⟩ | rfl | ⟨h1, h2, h3⟩
    · refine .inl ⟨0, by rw [find_cons, if_pos rfl], ?_, .inl ⟨rfl, rfl⟩⟩
      have e1 : tvn k = v := if_pos rfl
      cases g <;> simp only [ex, e1, hv0] at hb ⊢ <;> first | exact hb | cases hk3
    · have h4 := hvsk' k g h2
      refine .inl ⟨k, by rw [find_cons, if_neg (by omega)]; exact h2, ?_, .inr ⟨h1, rfl, h4⟩⟩
      have e1 : tvn k = tv' k := by show (if k = d then _ else _) = _; rw [if_neg h1, h2]; rfl
      cases g <;> simp only [ex, e1] at hb ⊢ <;> exact hb
    · cases hb
    · refine .inr ⟨h3, ?_, h1, h2⟩
      have e1 : tvn k = tv k := by show (if k = d then _ else _) = _; rw [if_neg h1, h2]; rfl
      cases g <;> simp only [ex, e1] at hb ⊢ <;> exact hb
  have hvoln : ∀ p, vol (upd σ (postCall l d r args.toList vs vs')) ρ tvn p → vol (find ((0, r) :: vs')) ρ tv' p ∨ vol σr ρ tv p := by
    rintro p ⟨k, g, h1, h2, h3⟩
    rcases hex' k g _ h1 h2 with ⟨k0, h4, h5, _⟩ | ⟨h4, h5, _⟩
    · exact .inl ⟨k0, g, h4, h5, h3⟩
    · exact .inr ⟨k, g, h4, h5, h3⟩
  have hC1 : ∀ p, cold e.V σ ρ tv w p → cold e.V (upd σ (postCall l d r args.toList vs vs')) ρ tvn w' p := fun p hp =>
    ⟨Nat.lt_of_lt_of_le hp.1 hFr.size, hp.2.1, fun h => by
      rcases hvoln p h with h1 | h1
      · rcases hvz' p h1 with h2 | h2
        · exact hp.2.2 (hvolc p h2)
        · have := hp.1; omega
      · exact hp.2.2 (hvolr p h1)⟩
  have hC2 : ∀ p, cold V' (find ((0, r) :: vs')) ρ tv' w' p → cold e.V (upd σ (postCall l d r args.toList vs vs')) ρ tvn w' p := fun p hp =>
    ⟨hp.1, fun h => hp.2.1 (.inl h), fun h => (hvoln p h).elim hp.2.2 (fun h => hp.2.1 (.inr h))⟩
  have hcell : ∀ p, cold e.V σ ρ tv w p → w'.cell? p = w.cell? p := fun p hp => hFr.cell p hp.1 (fun h => hp.2.2 (hvolc p h))
  have hghost : ∀ k g, σr k = some g → ∀ T xs, g = .var T xs → ∀ h, C.gh h ∈ xs → tvn h = tv h := by
    intro k g hk T xs hg h hh
    obtain ⟨h1, h2, h3⟩ := hσr k g hk
    subst hg
    obtain ⟨us, _, hcin⟩ := hrr.rel k _ h1
    have h1000 := (hcin.ghosts h hh).1
    have h2000 := (hcin.ghosts h hh).2
    show (if h = d then _ else _) = _
    rw [if_neg (by omega)]
    cases hfv : find vs' h with
    | none => rfl
    | some g' =>
      exfalso
      have hm := find_mem hfv
      have hlt : Nat.blt h 2000 = true := Nat.ble_eq_true_of_le h2000
      have hf0 : refB h (.var T xs) = false := (hfresh (h, vs.map (·.1)) (List.mem_map.2 ⟨_, List.mem_filter.2 ⟨hm, hlt⟩, rfl⟩)).2 k _ h2 h1
      have h4 : refB h (.var T xs) = true := List.any_eq_true.2 ⟨_, hh, Nat.beq_refl h⟩
      rw [h4] at hf0
      cases hf0
  have hrrn : RR e.V ρ tvn w' (upd σ (postCall l d r args.toList vs vs')) := by
    refine ⟨fun p hp => Nat.lt_of_lt_of_le (hrr.vb p hp) hFr.size, fun k g hk => ?_, fun k g k' g' b h1 h2 h3 h4 => ?_, fun k g b h1 h2 => ?_⟩
    · rcases hnew k g hk with ⟨rfl, rfl⟩ | ⟨h1, h2⟩ | rfl | ⟨h1, h2, h3⟩
      · have h4 := hrr'.rel 0 g (by rw [find_cons, if_pos rfl])
        have h5 : FV (cold V' (find ((0, g) :: vs')) ρ tv' w') ρ w' g v := by
          rw [← hv0]
          cases g <;> first | exact h4 | cases hk3
        refine KV.fv ?_ (fun p e => by rw [e] at hk3; cases hk3)
        rw [show tvn k = v from if_pos rfl]
        exact FV.mono (ρ := ρ) (w := w') hC2 (fun _ _ => rfl) (fun _ _ _ => rfl) (fun _ _ _ _ _ _ => rfl) h5
      · have h3 := hvsk' k g h2
        have e1 : tvn k = tv' k := by show (if k = d then _ else _) = _; rw [if_neg h1, h2]; rfl
        refine (hrr'.rel k g (by rw [find_cons, if_neg (by omega)]; exact h2)).mono hC2 (fun _ _ => rfl) ?_
        cases g with
        | var T xs =>
          refine ⟨rfl, rfl, fun q hq => ?_⟩
          unfold ghostsOK at hgh
          rw [List.all_eq_true] at hgh
          have h4 := hgh _ (find_mem h2)
          simp only [List.all_eq_true] at h4
          have h5 := h4 _ hq
          simp only [List.any_eq_true] at h5
          obtain ⟨⟨j, f'⟩, h6, h7⟩ := h5
          have h8 : q = j := Nat.eq_of_beq_eq_true h7
          have h9 : ∃ f'', find vs' q = some f'' := by
            cases hfq : find vs' q with
            | some f'' => exact ⟨f'', rfl⟩
            | none =>
              exfalso
              have : ∀ (L : List (Nat × F)), (j, f') ∈ L → find L j ≠ none := by
                intro L
                induction L with
                | nil => intro hm; simp at hm
                | cons x L ih =>
                  intro hm
                  obtain ⟨i, g⟩ := x
                  rw [find_cons]
                  by_cases ei : i = j
                  · rw [if_pos ei]; simp
                  · rw [if_neg ei]
                    rcases List.mem_cons.1 hm with h | h
                    · cases h; exact absurd rfl ei
                    · exact ih h
              exact this vs' h6 (by rw [← h8]; exact hfq)
          obtain ⟨f'', h9⟩ := h9
          have hq1 := hvsk' q f'' h9
          show (if q = d then _ else _) = _
          rw [if_neg (by omega), h9]
          rfl
        | own T sz els => exact ⟨e1, fun _ _ => rfl⟩
        | ptr x o' => exact ⟨e1, rfl⟩
        | rel ks C => exact ⟨e1, fun _ _ => rfl⟩
        | ob p => exact ⟨rfl, rfl⟩
        | _ => exact e1
      · trivial
      · obtain ⟨c1, c2, c3⟩ := hσr k g h3
        have e1 : tvn k = tv k := by show (if k = d then _ else _) = _; rw [if_neg h1, h2]; rfl
        have hblk : ∀ b, ex ρ tv k g = some b → w'.heap[b]? = w.heap[b]? := fun b hb => by
          refine hFr.block b (hrr.exb k g b c1 hb).1 (fun p hp hvp => ?_)
          obtain ⟨k1, g1, q1, q2, _⟩ := hvp
          obtain ⟨k0, q4, q5, q6⟩ := hexc k1 g1 _ q1 q2
          have heq := hrr.dist _ _ _ _ _ c1 q4 hb (by rw [← hp]; exact q5)
          rcases q6 with ⟨_, _, q7, _⟩ | ⟨_, q7, q8⟩
          · exact c3 (heq ▸ q7)
          · exact c2 (by rw [heq, q7]; exact q8)
        refine (hrr.rel k g c1).mono hC1 hcell ?_
        cases g with
        | var T xs => exact ⟨rfl, hblk _ rfl, hghost k _ h3 T xs rfl⟩
        | own T sz els => exact ⟨e1, fun b hb => hblk b hb⟩
        | ptr x o' => exact ⟨e1, rfl⟩
        | rel ks C => exact ⟨e1, fun _ _ => rfl⟩
        | ob p => exact ⟨rfl, hblk _ rfl⟩
        | _ => exact e1
    · rcases hex' _ _ _ h1 h3 with ⟨k0, a1, a2, a3⟩ | ⟨a1, a2, a3, a4⟩ <;> rcases hex' _ _ _ h2 h4 with ⟨k0', b1, b2, b3⟩ | ⟨b1, b2, b3, b4⟩
      · have heq := hrr'.dist _ _ _ _ _ a1 b1 a2 b2
        rcases a3 with ⟨a3, a4⟩ | ⟨a3, a4, a5⟩ <;> rcases b3 with ⟨b3, b4⟩ | ⟨b3, b4, b5⟩ <;> omega
      · have h5 := (hrr'.exb _ _ _ a1 a2).2 ⟨b, lo g', none⟩ rfl
        exact absurd (.inr ⟨k', g', b1, b2, Nat.le_refl _⟩) h5
      · have h5 := (hrr'.exb _ _ _ b1 b2).2 ⟨b, lo g, none⟩ rfl
        exact absurd (.inr ⟨k, g, a1, a2, Nat.le_refl _⟩) h5
      · exact hrr.dist _ _ _ _ _ (hσr _ _ a1).1 (hσr _ _ b1).1 a2 b2
    · rcases hex' _ _ _ h1 h2 with ⟨k0, a1, a2, a3⟩ | ⟨a1, a2, a3, a4⟩
      · have := hrr'.exb _ _ _ a1 a2
        exact ⟨this.1, fun p hp hV => this.2 p hp (.inl hV)⟩
      · have := hrr.exb _ _ _ (hσr _ _ a1).1 a2
        exact ⟨Nat.lt_of_lt_of_le this.1 hFr.size, this.2⟩
  refine hnext _ _ ⟨by rw [put_defers]; exact hdf, by rw [put_size]; exact hsz, hfr.trans hFr (fun p hp hvp => ?_), ρ, tvn, fun t ht => ?_, hin, fun p hp => ?_, hrrn⟩
  · rcases hvz p (hvolc p hvp) with h | h
    · exact h
    · omega
  · rw [put_getD _ _ _ (by rw [hsz]; exact hdn d hd)]
    show (if t = d then _ else _) = _
    by_cases et : t = d
    · rw [if_pos et, if_pos et]
    · rw [if_neg et, if_neg et]
      have : find vs' t = none := by
        cases hft : find vs' t with
        | none => rfl
        | some g => have := hvsk' t g hft; omega
      rw [this]
      exact htv t ht
  · rcases hvoln p hp with h | h
    · rcases hvz' p h with h1 | h1
      · exact hvz p (hvolc p h1)
      · have := hfr.size; exact .inr (by omega)
    · exact hvz p (hvolr p h)

theorem r_call {P : Program} {o : Oper} {l : List (Nat × F)} {d : Nat} {f : FuncId} {args : Array Operand} {ts : Array TypeId} {fs : List F} {vs vs' : List (Nat × F)} {r : F} (hC : Con P f fs vs r vs') (ho : o.op = .call { callee := .value (.func f), args := args, argTypes := ts }) (hd : o.dst = some d)
    (ha : argsF l args.toList = some fs) (hvs : sub vs l) (hck : (callOK P f && keysOK vs vs' r && oneOwn fs && ghostsOK vs' && Nat.ble fs.length 1000) = true) :
    Does P o (args.toList.flatMap rdOf ++ vs.map (·.1)) (frCall vs vs') l (postCall l d r args.toList vs vs') := by
  rw [Bool.and_eq_true, Bool.and_eq_true, Bool.and_eq_true, Bool.and_eq_true] at hck
  obtain ⟨⟨⟨⟨hc, hko⟩, hone⟩, hgh⟩, hlen⟩ := hck
  refine (Does.call (rdx := []) (fun S tv0 V ρ tv w a B _ hsz htv hrr htt hvB hB next hnext => ?_) hd ha hvs (by rw [hko, hone, hgh, hlen]; rfl)).more (fun k hk => by simpa using hk)
  unfold wq
  rw [run_call ho hc, uq_enter]
  refine (hC V ρ tv w _ B hsz htv hrr htt hvB hB).mono ?_
  rintro e' w' ⟨v, tv', rfl, hv0, hFr, hrr', hvz'⟩
  exact hnext v tv' w' hv0 hFr hrr' hvz'

end Go.Proofs.YtlagglkpbnbmeaaGreatDoor

/- Shadows: rows of the call's own, and what grows. -/
namespace Go.Proofs.YtlagglkpbnbmeaaGreatDoor
set_option linter.unusedVariables false
open Go Go.RowKit

theorem RR.same2 {V : Addr → Prop} {ρ ρ' : Nat → Nat} {tv tv' : Nat → Value} {w w' : World} {σ : Sta} (h : RR V ρ tv w σ) {k : Nat} {f : F} (hf : σ k = some f) (ht : tv' k = tv k) (hg : ∀ T xs, f = .var T xs → ∀ g, 1000 ≤ g → C.gh g ∈ xs → tv' g = tv g)
    (hρ : ∀ T xs, IsV f T xs → ρ' k = ρ k) (hp : ∀ x o, IsRef f x o → ρ' x = ρ x) (hb : ∀ b, ex ρ tv k f = some b → w'.heap[b]? = w.heap[b]?) : Same ρ ρ' tv tv' w w' k f := by
  cases f with
  | var T xs =>
    obtain ⟨vs, _, h2⟩ := h.rel k _ hf
    exact ⟨hρ T xs (.var T xs), hb _ rfl, fun g hm => hg T xs rfl g (h2.ghosts g hm).1 hm⟩
  | ob p => exact ⟨hρ 0 [] (.ob p 0 []), hb _ rfl⟩
  | ptr x o => exact ⟨ht, hp x o (.inl rfl)⟩
  | rel ks C => exact ⟨ht, fun x hx => hp x 0 (.inr ⟨ks, C, rfl, hx⟩)⟩
  | own T sz els => exact ⟨ht, fun b hb' => hb b hb'⟩
  | _ => exact ht
theorem RR.own {V : Addr → Prop} {ρ : Nat → Nat} {tv : Nat → Value} {w w' : World} {σ : Sta} (h : RR V ρ tv w σ) {t d : Nat} (hd : d < 1000 ∨ ∀ k T xs, σ k = some (.var T xs) → C.gh d ∉ xs) {T : TypeId} {sz : Nat} {els : List (List D)} {v : Value} {us : List Value} (Z : Addr → Prop)
    (hZ : ∀ p, Z p → ∃ f, σ t = some f ∧ ex ρ tv t f = some p.block ∧ lo f ≤ p.off) (hsz : w.heap.size ≤ w'.heap.size) (hc : ∀ p : Addr, p.block < w.heap.size → ¬ Z p → w'.cell? p = w.cell? p)
    (hb : ∀ b, b < w.heap.size → (∀ f, σ t = some f → ex ρ tv t f ≠ some b) → w'.heap[b]? = w.heap[b]?) (hown : w'.ownsRow 0 T sz v els.length us) (hr : ∀ r, r ∈ els → r.length = sz) (hl : LIn (cold V σ ρ tv w) w els.flatten us)
    (hv1 : ∀ p : Addr, v.ownBlock = some p.block → els.length * sz ≤ p.off → Z p ∨ w.heap.size ≤ p.block) (hv2 : ∀ b, v.ownBlock = some b → (∃ f, σ t = some f ∧ ex ρ tv t f = some b) ∨ w.heap.size ≤ b) :
    RR V ρ (setv tv d v) w' (upd σ [(d, .own T sz els), (t, .non)]) ∧ ∀ p, vol (upd σ [(d, .own T sz els), (t, .non)]) ρ (setv tv d v) p → vol σ ρ tv p ∨ w.heap.size ≤ p.block := by
  have hnew : ∀ k g, upd σ [(d, .own T sz els), (t, .non)] k = some g → (k = d ∧ g = .own T sz els) ∨ g = .non ∨ (k ≠ d ∧ k ≠ t ∧ σ k = some g) := by
    intro k g hk
    unfold upd at hk
    simp only [find_cons] at hk
    by_cases h1 : d = k
    · rw [if_pos h1] at hk; cases hk; exact .inl ⟨h1.symm, rfl⟩
    · rw [if_neg h1] at hk
      by_cases h2 : t = k
      · rw [if_pos h2] at hk; cases hk; exact .inr (.inl rfl)
      · rw [if_neg h2] at hk
        exact .inr (.inr ⟨fun e => h1 e.symm, fun e => h2 e.symm, hk⟩)
  have hex : ∀ k g b, upd σ [(d, .own T sz els), (t, .non)] k = some g → ex ρ (setv tv d v) k g = some b → (k = d ∧ g = .own T sz els ∧ v.ownBlock = some b) ∨ (k ≠ d ∧ k ≠ t ∧ σ k = some g ∧ ex ρ tv k g = some b) := by
    intro k g b hk hb
    rcases hnew k g hk with ⟨h1, h2⟩ | rfl | ⟨h1, h2, h3⟩
    · subst h1 h2
      simp only [ex, setv_same] at hb
      exact .inl ⟨rfl, rfl, hb⟩
    · cases hb
    · refine .inr ⟨h1, h2, h3, ?_⟩
      cases g <;> simp only [ex, setv_other _ _ _ h1] at hb ⊢ <;> exact hb
  have hvol : ∀ p, vol (upd σ [(d, .own T sz els), (t, .non)]) ρ (setv tv d v) p → vol σ ρ tv p ∨ w.heap.size ≤ p.block := by
    rintro p ⟨k, g, h1, h2, h3⟩
    rcases hex k g _ h1 h2 with ⟨rfl, rfl, h4⟩ | ⟨_, _, h4, h5⟩
    · rcases hv1 p h4 h3 with h5 | h5
      · obtain ⟨f, h6, h7, h8⟩ := hZ p h5
        exact .inl ⟨t, f, h6, h7, h8⟩
      · exact .inr h5
    · exact .inl ⟨k, g, h4, h5, h3⟩
  have hZc : ∀ p, cold V σ ρ tv w p → ¬ Z p := fun p hp hz => by
    obtain ⟨f, h6, h7, h8⟩ := hZ p hz
    exact hp.2.2 ⟨t, f, h6, h7, h8⟩
  have hcold : ∀ p, cold V σ ρ tv w p → cold V (upd σ [(d, .own T sz els), (t, .non)]) ρ (setv tv d v) w' p := fun p hp => ⟨Nat.lt_of_lt_of_le hp.1 hsz, hp.2.1, fun e => by
    rcases hvol p e with h1 | h1
    · exact hp.2.2 h1
    · have := hp.1; omega⟩
  have hcell : ∀ p, cold V σ ρ tv w p → w'.cell? p = w.cell? p := fun p hp => hc p hp.1 (hZc p hp)
  have hlt : ∀ b, v.ownBlock = some b → b < w'.heap.size := fun b hb' => (hown.lt b hb').2
  refine ⟨h.to hsz (fun p hp => ⟨(hcold p hp).2.2, hcell p hp⟩) (fun k g hk => ?_) (fun k g k' g' b h1 h2 h3 h4 => ?_) (fun k g b h1 h2 => ?_), hvol⟩
  · rcases hnew k g hk with ⟨h1, h2⟩ | rfl | ⟨h1, h2, h3⟩
    · subst h1 h2
      refine .inr (KV.fv ?_)
      rw [setv_same]
      exact ⟨us, hown, hr, hl.mono hcold hcell⟩
    · exact .inr trivial
    · refine .inl ⟨h3, h.same2 h3 (setv_other _ _ _ h1) (fun T xs e2 g hg hm => setv_other _ _ _ (by
        rcases hd with hd | hd
        · omega
        · intro e3; subst e2 e3; exact hd k T xs h3 hm)) (fun _ _ _ => rfl) (fun _ _ _ => rfl) (fun b hx => hb b (h.exb k g b h3 hx).1 (fun f hf hx' => h2 (h.dist _ _ _ _ _ h3 hf hx hx')))⟩
  · rcases hex _ _ _ h1 h3 with ⟨a1, a2, a3⟩ | ⟨a1, a2, a3, a4⟩ <;> rcases hex _ _ _ h2 h4 with ⟨b1, b2, b3⟩ | ⟨b1, b2, b3, b4⟩
    · rw [a1, b1]
    · exfalso
      rcases hv2 b a3 with ⟨f, c1, c2⟩ | c1
      · exact b2 (h.dist _ _ _ _ _ b3 c1 b4 c2)
      · have := (h.exb _ _ _ b3 b4).1; omega
    · exfalso
      rcases hv2 b b3 with ⟨f, c1, c2⟩ | c1
      · exact a2 (h.dist _ _ _ _ _ a3 c1 a4 c2)
      · have := (h.exb _ _ _ a3 a4).1; omega
    · exact h.dist _ _ _ _ _ a3 b3 a4 b4
  · rcases hex _ _ _ h1 h2 with ⟨a1, a2, a3⟩ | ⟨a1, a2, a3, a4⟩
    · refine ⟨hlt b a3, fun p hp hV => ?_⟩
      rcases hv2 b a3 with ⟨f, c1, c2⟩ | c1
      · exact (h.exb _ _ _ c1 c2).2 p hp hV
      · have := h.vb p hV; omega
    · have := h.exb _ _ _ a3 a4
      exact ⟨Nat.lt_of_lt_of_le this.1 hsz, this.2⟩

theorem R.own {e : Env} {σ : Sta} {a : Act} {w w' : World} {ρ : Nat → Nat} {tv : Nat → Value} (hdf : a.defers = e.ds) (hsz : a.tmps.size = e.n) (hfr : Fr e.vol0 e.w0 w') (htv : ∀ t, t < 1000 → tv t = a.tmps.getD t undef)
    (hin : ∀ x, x ∈ e.ins → ρ x = e.ρ0 x) (hvz : ∀ p, vol σ ρ tv p → e.vol0 p ∨ e.w0.heap.size ≤ p.block) (hle : e.w0.heap.size ≤ w.heap.size) {d t : Nat} (hd : d < e.n) (hn : e.n ≤ 1000) {T : TypeId} {sz : Nat} {els : List (List D)} {v : Value}
    (h : RR e.V ρ (setv tv d v) w' (upd σ [(d, .own T sz els), (t, .non)]) ∧ ∀ p, vol (upd σ [(d, .own T sz els), (t, .non)]) ρ (setv tv d v) p → vol σ ρ tv p ∨ w.heap.size ≤ p.block) :
    R e (upd σ [(d, .own T sz els), (t, .non)]) (a.put (some d) v) w' := by
  refine ⟨by rw [put_defers]; exact hdf, by rw [put_size]; exact hsz, hfr, ρ, setv tv d v, fun t ht => ?_, hin, fun p hv => ?_, h.1⟩
  · rw [put_getD _ _ _ (by omega), setv, htv t ht]
  · rcases h.2 p hv with h1 | h1
    · exact hvz p h1
    · exact .inr (by omega)

section
variable {P : Program} {o : Oper} {l : List (Nat × F)} {d : Nat}

theorem r_pickT {x y z : Operand} {f : F} (ho : o.op = .pick x y z) (hd : o.dst = some d) (hx : opd l x = some (.c (.lit (.bool true)))) (hy : opd l y = some f) (hp : Plain f) : Does P o (rdOf x ++ rdOf y) [] l [(d, f)] :=
  Does.val hd hp fun S ρ tv a w hv => by
    have e1 := lit_val (hv.fv hx (fun _ h => List.mem_append_left _ h) (by intro T xs e; cases e))
    refine ⟨a.eval y, ?_, hv.fv hy (fun _ h => List.mem_append_right _ h) (by intro T xs e; rw [e] at hp; exact hp)⟩
    simp only [execOp, ho, e1, asBool, Sem.run_bind, Sem.run_pure, Result.andThen_ok, if_true]
theorem r_pickF {x y z : Operand} {f : F} (ho : o.op = .pick x y z) (hd : o.dst = some d) (hx : opd l x = some (.c (.lit (.bool false)))) (hy : opd l z = some f) (hp : Plain f) : Does P o (rdOf x ++ rdOf z) [] l [(d, f)] :=
  Does.val hd hp fun S ρ tv a w hv => by
    have e1 := lit_val (hv.fv hx (fun _ h => List.mem_append_left _ h) (by intro T xs e; cases e))
    refine ⟨a.eval z, ?_, hv.fv hy (fun _ h => List.mem_append_right _ h) (by intro T xs e; rw [e] at hp; exact hp)⟩
    simp only [execOp, ho, e1, asBool, Sem.run_bind, Sem.run_pure, Result.andThen_ok, Bool.false_eq_true, if_false]

def sliceT (P : Program) (T : TypeId) : Bool := match P.underlying T with | some (.slice _) => true | _ => false
def stringT (P : Program) (T : TypeId) : Bool := match P.underlying T with | some .string => true | _ => false
theorem run_len {x : Operand} {T : TypeId} (ho : o.op = .call { callee := .builtin .len, args := #[x], argTypes := #[T] }) {a : Act} {w : World} {v : Value} (h : (Builtin.len_ #[T] o.type #[a.eval x]).run P w = .ok v w) : (execOp a.eval o).run P w = .ok (.value v) w := by
  simp only [execOp, ho, resolve, Sem.run_bind, Sem.run_pure, Result.andThen_ok, invoke, builtin, List.map_toArray, List.map_cons, List.map_nil, h]
theorem r_len {x : Operand} {T : TypeId} {sz : Nat} {els : List (List D)} (ho : o.op = .call { callee := .builtin .len, args := #[x], argTypes := #[T] }) (hd : o.dst = some d) (hT : sliceT P T = true) (hx : opd l x = some (.c (.sl sz els))) :
    Does P o (rdOf x) [] l [(d, .c (.lit (.int .i64 els.length)))] :=
  Does.val hd trivial fun S ρ tv a w hv => by
    obtain ⟨A, c, h1, _⟩ := DIn.row (hv.fv hx (fun _ h => h) (by intro T xs e; cases e))
    refine ⟨_, run_len ho ?_, .lit _ rfl⟩
    unfold sliceT at hT
    cases hu : P.underlying T with
    | none => simp [hu] at hT
    | some dd => cases dd <;> simp_all [Builtin.len_, run_underlying hu w, goInt]
theorem r_lenS {x : Operand} {T : TypeId} {s : List UInt8} (ho : o.op = .call { callee := .builtin .len, args := #[x], argTypes := #[T] }) (hd : o.dst = some d) (hT : stringT P T = true) (hx : opd l x = some (.c (.lit (str s)))) :
    Does P o (rdOf x) [] l [(d, .c (.lit (.int .i64 s.length)))] :=
  Does.val hd trivial fun S ρ tv a w hv => by
    have h1 := lit_val (hv.fv hx (fun _ h => h) (by intro T xs e; cases e))
    refine ⟨_, run_len ho ?_, .lit _ rfl⟩
    unfold stringT at hT
    cases hu : P.underlying T with
    | none => simp [hu] at hT
    | some dd =>
      rw [hu] at hT
      cases dd with
      | string =>
        rw [h1]
        simp only [Builtin.len_, Sem.run_bind, List.getElem?_toArray, List.getElem?_cons_zero, run_underlying hu w, Result.andThen_ok, Sem.run_pure]
        rfl
      | _ => cases hT

theorem flatten_at {α : Type} : ∀ (els : List (List α)) (sz : Nat), (∀ r, r ∈ els → r.length = sz) → ∀ (i j : Nat), j < sz → els.flatten[i * sz + j]? = (els[i]?).bind (·[j]?)
  | [], sz, _, i, j, _ => by simp
  | r :: els, sz, h, i, j, hj => by
    have hr := h r (List.mem_cons_self ..)
    rw [List.flatten_cons]
    cases i with
    | zero => rw [List.getElem?_append_left (by omega)]; simp
    | succ i =>
      have e : (i + 1) * sz + j = r.length + (i * sz + j) := by rw [Nat.add_mul, hr]; omega
      rw [e, List.getElem?_append_right (by omega), Nat.add_sub_cancel_left, flatten_at els sz (fun r hr => h r (List.mem_cons_of_mem _ hr)) i j hj]
      simp
theorem flatten_len {α : Type} : ∀ (els : List (List α)) (sz : Nat), (∀ r, r ∈ els → r.length = sz) → els.flatten.length = els.length * sz
  | [], _, _ => by simp
  | r :: els, sz, h => by
    rw [List.flatten_cons, List.length_append, flatten_len els sz (fun r hr => h r (List.mem_cons_of_mem _ hr)), h r (List.mem_cons_self ..), List.length_cons, Nat.add_mul]
    omega
theorem DIn.rows {S : Addr → Prop} {w : World} {sz : Nat} {els : List (List D)} {ad : Addr} {c : Nat} {us : List Value} (hc : els.length ≤ c) (hr : ∀ r, r ∈ els → r.length = sz) (hl : LIn S w els.flatten us) (hcell : ∀ j u, us[j]? = some u → S (ad.add j) ∧ w.cell? (ad.add j) = some u) :
    DIn S w (.sl sz els) (.slice (some ad) els.length c) :=
  .ofRow rfl hc (fun _ => ⟨ad, rfl⟩) hr fun i j dd hd => by
    have hj : j < sz := by
      unfold D.at at hd
      cases hi : els[i]? with
      | none => rw [hi] at hd; cases hd
      | some r =>
        rw [hi] at hd
        have := hr r (List.mem_of_getElem? hi)
        rcases Nat.lt_or_ge j sz with h | h
        · exact h
        · simp only [Option.bind_some] at hd
          rw [List.getElem?_eq_none (by omega)] at hd; cases hd
    obtain ⟨u, h1, h2⟩ := hl.get (i * sz + j) dd (by rw [flatten_at els sz hr i j hj]; exact hd)
    obtain ⟨h3, h4⟩ := hcell _ u h1
    exact ⟨ad, u, rfl, h3, h4, h2⟩
def rowsOK (sz : Nat) (els : List (List D)) : Bool := els.all fun r => Nat.beq r.length sz
theorem rowsOK_ok {sz : Nat} {els : List (List D)} (h : rowsOK sz els = true) : ∀ r, r ∈ els → r.length = sz := by
  intro r hr
  unfold rowsOK at h
  rw [List.all_eq_true] at h
  exact Nat.eq_of_beq_eq_true (h r hr)
def litPlace (sz i : Nat) : Option (Nat × Nat) := some (i * sz, sz)
theorem run_buildSl {T e : TypeId} {n sz : Nat} {parts : Array (Nat × Operand)} {zs : List Value} {ps : List (Nat × List D)} {els : List (List D)} (ho : o.op = .buildSlice T n parts) (hT : elemOf? P T = some (e, sz)) (hz : zeroT P e = some zs) (hsm : (Nat.ble (n * sz) 16777216 && !Nat.beq (n * sz) 0 && Nat.beq zs.length sz) = true)
    (hp : partsD l parts.toList = some ps) (hf : fillD (litPlace sz) (List.replicate (n * sz) .any) ps = some els.flatten) {S : Addr → Prop} {ρ : Nat → Nat} {tv : Nat → Value} {a : Act} {w : World} (hv : View l (rdsOf parts.toList) S ρ tv a w) :
    ∃ us : List Value, (execOp a.eval o).run P w = .ok (.value (.slice (some ⟨w.heap.size, 0, none⟩) n n)) (w.alloc (.cells us.toArray e)) ∧ LIn S w els.flatten us := by
  simp only [Bool.and_eq_true, Bool.not_eq_true'] at hsm
  obtain ⟨⟨h1, h2⟩, h3⟩ := hsm
  have h1' := Nat.le_of_ble_eq_true h1
  have h2' : n * sz ≠ 0 := fun e => by rw [e] at h2; cases h2
  have h3' := Nat.eq_of_beq_eq_true h3
  obtain ⟨hu, hs⟩ := elemOf?_some hT
  obtain ⟨z, hz1, hz2, hz3⟩ := zeroT_some hz
  unfold zeroT at hz
  cases hi : P.info? e with
  | none => simp [hi] at hz
  | some ie =>
    have hsz : ie.size = sz := by unfold sizeT at hs; simpa [hi] using hs
    have hzz : ie.zero = some z := by
      have := hz1 w
      simp [zeroValue, typeInfo, hi] at this
      cases hq : ie.zero with
      | none => simp [hq] at this
      | some z' => simp [hq] at this; rw [this]
    have hpos : 0 < sz := by
      rcases Nat.eq_zero_or_pos sz with h | h
      · rw [h] at h2'; simp at h2'
      · exact h
    let arr : Array Value := (Array.range (n * sz)).map (z.cells[· % z.cells.size]!)
    have harr : LIn S w (List.replicate (n * sz) .any) arr.toList := LIn.of (by simp [arr]) fun j dd v hd' hv' => by
      have hd2 : dd = .any := by
        have := List.mem_of_getElem? hd'
        exact (List.mem_replicate.1 this).2
      subst hd2
      refine .any v ?_
      simp only [arr, Array.toList_map, Array.toList_range, List.getElem?_map] at hv'
      cases hr : (List.range (n * sz))[j]? with
      | none => rw [hr] at hv'; cases hv'
      | some i =>
        rw [hr] at hv'
        simp only [Option.map_some, Option.some.injEq] at hv'
        rw [← hv']
        have hlt : i % z.cells.size < z.cells.size := Nat.mod_lt _ (by rw [hz2, List.size_toArray, h3']; exact hpos)
        rw [getElem!_pos z.cells _ hlt]
        exact hz3 _ (by
          have := Array.getElem_mem (xs := z.cells) hlt
          rw [← Array.mem_toList_iff] at this
          have e1 : z.cells.toList = zs := by rw [hz2]
          rw [← e1]
          exact this)
    obtain ⟨us, h4, h5⟩ := fill_ok (l := l) (S := S) (w := w) (ρ := ρ) (a := a) (place := litPlace sz) parts.toList ps _ arr.toList els.flatten (fun x hx f g1 g2 => hv.fv g1 (fun k hk => by
      unfold rdsOf
      exact List.mem_flatMap.2 ⟨x, hx, hk⟩) g2) hp harr hf
    refine ⟨us, ?_, h5⟩
    have h6 : Instr.fill (fun i => some (i * ie.size, ie.size)) ((Array.range (n * ie.size)).map (z.cells[· % z.cells.size]!)) (parts.map fun (i, x) => (i, a.eval x)).toList = some us.toArray := by
      rw [hsz, Array.toList_map]
      have e1 : arr.toList.toArray = arr := by simp
      rw [e1] at h4
      exact h4
    have h7 := run_buildSlice (P := P) w T e n (parts.map fun (i, x) => (i, a.eval x)) us.toArray ie z hu hi hzz (by rw [hsz]; omega) (by rw [hsz]; omega) h6
    simp only [execOp, ho, Sem.run_bind, h7, Result.andThen_ok]
    rfl
theorem r_buildSlice {T e : TypeId} {n sz : Nat} {parts : Array (Nat × Operand)} {zs : List Value} {ps : List (Nat × List D)} (els : List (List D)) (ho : o.op = .buildSlice T n parts) (hd : o.dst = some d) (hT : elemOf? P T = some (e, sz)) (hz : zeroT P e = some zs) (hsm : (Nat.ble (n * sz) 16777216 && !Nat.beq (n * sz) 0 && Nat.beq zs.length sz) = true)
    (hp : partsD l parts.toList = some ps) (hf : fillD (litPlace sz) (List.replicate (n * sz) .any) ps = some els.flatten) (hr : (rowsOK sz els && Nat.beq els.length n) = true) : Does P o (rdsOf parts.toList) [] l [(d, .c (.sl sz els))] :=
  Does.newRow hd trivial fun S ρ tv a w hv => by
    rw [Bool.and_eq_true] at hr
    have hr1 := rowsOK_ok hr.1
    have hr2 := Nat.eq_of_beq_eq_true hr.2
    obtain ⟨us, h1, h2⟩ := run_buildSl ho hT hz hsm hp hf hv
    have hbl : Below w.heap.size w (w.alloc (.cells us.toArray e)) := (Below.refl _ _).alloc (Nat.le_refl _) _
    refine ⟨_, _, h1, hbl, fun S' h3 h4 h5 => ?_⟩
    show DIn S' _ _ _
    rw [← hr2]
    refine DIn.rows (Nat.le_refl _) hr1 (h2.mono h3 (fun p hp => hbl.cell (h5 p hp))) (fun j u hj => ?_)
    rw [addr_add, Nat.zero_add]
    refine ⟨h4 _ (Nat.le_refl _) (by simp), ?_⟩
    rw [World.cell?_alloc_new]
    simpa using hj
theorem r_buildSliceOwn {T e : TypeId} {n sz : Nat} {parts : Array (Nat × Operand)} {zs : List Value} {ps : List (Nat × List D)} (els : List (List D)) (ho : o.op = .buildSlice T n parts) (hd : o.dst = some d) (hT : elemOf? P T = some (e, sz)) (hz : zeroT P e = some zs) (hsm : (Nat.ble (n * sz) 16777216 && !Nat.beq (n * sz) 0 && Nat.beq zs.length sz) = true)
    (hp : partsD l parts.toList = some ps) (hf : fillD (litPlace sz) (List.replicate (n * sz) .any) ps = some els.flatten) (hr : (rowsOK sz els && Nat.beq els.length n) = true) (hn : Nat.ble n 16777216 = true) : Does P o (rdsOf parts.toList) [] l [(d, .own e sz els), (d, .non)] := by
  intro en σ a w next Q hnn hdn hσ _ hR hnext
  obtain ⟨hdf, hsz, hfr, ρ, tv, htv, hin, hvz, hrr⟩ := hR
  rw [Bool.and_eq_true] at hr
  have hr1 := rowsOK_ok hr.1
  have hr2 := Nat.eq_of_beq_eq_true hr.2
  have hn' := Nat.le_of_ble_eq_true hn
  obtain ⟨us, h1, h2⟩ := run_buildSl ho hT hz hsm hp hf (view_of hσ htv hrr)
  have hbl : Below w.heap.size w (w.alloc (.cells us.toArray e)) := (Below.refl _ _).alloc (Nat.le_refl _) _
  unfold wq
  rw [h1, uq_value, hd]
  have hlen : us.length = els.length * sz := by rw [← h2.len, flatten_len els sz hr1]
  have hdlt : d < 1000 := Nat.lt_of_lt_of_le (hdn d hd) hnn
  refine hnext _ _ (R.own (w := w) hdf hsz (hfr.grow hbl) htv hin hvz hfr.size (hdn d hd) hnn (hrr.own (.inl hdlt) (fun _ => False) (fun p hp => hp.elim) hbl.size (fun p hp _ => hbl.cell hp) (fun b hb _ => hbl.block b hb) (us := us) ?_ hr1 h2 (fun p hp _ => .inr ?_) (fun b hb => .inr ?_)))
  · refine ⟨hlen, .inr ⟨w.heap.size, n, us.toArray, by rw [hr2], Nat.zero_le _, heap_alloc_new w _, by omega, by unfold maxLen; omega, by simp; rw [hlen, hr2], ?_⟩⟩
    rw [← hlen]
    simp
  · simp [Value.ownBlock] at hp; omega
  · simp [Value.ownBlock] at hb; omega
end

end Go.Proofs.YtlagglkpbnbmeaaGreatDoor

/- Shadows: appends; rows that go from key to key; what follows from what. -/
namespace Go.Proofs.YtlagglkpbnbmeaaGreatDoor
set_option linter.unusedVariables false
open Go Go.RowKit

def Grows (w w' : World) (v v' : Value) : Prop := (∃ g, v.ownBlock = some g ∧ v'.ownBlock = some g ∧ w.grownBy w' (some g)) ∨ ((∀ b, v'.ownBlock = some b → w.heap.size ≤ b) ∧ Below w.heap.size w w')

theorem run_append_two {P : Program} (w : World) (t ty e : TypeId) (i : TypeInfo) (z : Value) (size bytes : Nat) (ht : P.underlying t = some (.slice e)) (hi : P.info? e = some i) (hz : i.zero = some z) (hsize : i.size = size) (hby : i.bytes = bytes) (hzs : z.cells.size = size) (hsz : 0 < size)
    (v : Value) (n : Nat) (xs : List Value) (hown : w.ownsRow 0 e size v n xs) (a : Addr) (m c : Nat) (news : List Value) (hl : news.length = m * size) (hnews : ∀ j u, news[j]? = some u → w.cell? (a.add j) = some u) (h1 : ∀ u ∈ news, u.oneCell' = true)
    (hbytes : (n + m) * bytes ≤ 140737488355328) (hsmall : n + m ≤ 140737488355328) : ∃ v' w', (Builtin.append_ #[t, t] ty #[v, .slice (some a) m c]).run P w = .ok v' w' ∧ w'.ownsRow 0 e size v' (n + m) (xs ++ news) ∧ Grows w w' v v' := by
  obtain ⟨v', w', hr, h2, h3, h4⟩ := run_append_own (P := P) w 0 t ty e i z size bytes ht hi hz hsize hby hzs hsz v n xs hown a m c news hl hnews h1 (by unfold maxLen; omega) hbytes (Nat.zero_le _)
  refine ⟨v', w', hr, h2, ?_⟩
  rcases hown.2 with ⟨rfl, rfl⟩ | ⟨g, cap, cur, rfl, hbg, hg, hnc, hcm, hcs, htake⟩
  · refine .inr ⟨fun b hb => ?_, ⟨h3.os, h3.tape, h3.output, h3.size, fun k hk => h3.block k hk (by simp [Value.ownBlock])⟩⟩
    by_cases hm : m = 0
    · have := h4.2 ⟨rfl, hm⟩
      rw [this] at hb
      simp [Value.ownBlock] at hb
    · have hr2 := run_append_nil (P := P) w t ty e i z ht hi hz a m c news (by rw [hsize]; exact hl) hnews (by omega) (by omega) (by rw [hby]; have hb := hbytes; simp only [Nat.zero_add] at hb; omega)
      rw [hr] at hr2
      cases hr2
      simp [Value.ownBlock] at hb
      omega
  · by_cases hroom : n + m ≤ cap
    · obtain ⟨w2, hr2, _, _⟩ := run_append_own_spare (P := P) w 0 t ty e i size ht hi hsize g n cap xs hown a m c news hl hnews h1 hroom
      rw [hr] at hr2
      cases hr2
      exact .inl ⟨g, rfl, rfl, h3⟩
    · have holds : ∀ j u, xs[j]? = some u → w.cell? ((⟨g, 0, none⟩ : Addr).add j) = some u := hown.cells (g := g) rfl
      have hr2 := run_append_grow (P := P) w t ty e i z ht hi hz ⟨g, 0, none⟩ n cap xs (by rw [hsize]; exact hown.1) holds a m c news (by rw [hsize]; exact hl) hnews (by omega) (by omega) (growslice_fits (by omega) (by rw [hby]; exact hbytes))
      rw [hr] at hr2
      cases hr2
      refine .inr ⟨fun b hb => ?_, (Below.refl _ _).drew.alloc (by simp) _⟩
      simp [Value.ownBlock] at hb
      omega
theorem run_append_twoS {P : Program} (w : World) (t u ty e : TypeId) (i : TypeInfo) (ht : P.underlying t = some (.slice e)) (hu : P.underlying u = some .string) (hi : P.info? e = some i) (hz : i.zero = some (.int .u8 0)) (hsize : i.size = 1) (hby : i.bytes = 1)
    (v : Value) (n : Nat) (xs : List Value) (hown : w.ownsRow 0 e 1 v n xs) (s : ByteArray) (hsmall : n + s.size ≤ 140737488355328) :
    ∃ v' w', (Builtin.append_ #[t, u] ty #[v, .string s]).run P w = .ok v' w' ∧ w'.ownsRow 0 e 1 v' (n + s.size) (xs ++ Lib.strCells s) ∧ Grows w w' v v' := by
  obtain ⟨v', w', hr, h2, h3, h4⟩ := Lib.run_append_own_string (P := P) w 0 t u ty e i ht hu hi hz hsize hby v n xs hown s (by unfold maxLen; omega) hsmall (Nat.zero_le _)
  refine ⟨v', w', hr, h2, ?_⟩
  rcases hown.2 with ⟨rfl, rfl⟩ | ⟨g, cap, cur, rfl, hbg, hg, hnc, hcm, hcs, htake⟩
  · refine .inr ⟨fun b hb => ?_, ⟨h3.os, h3.tape, h3.output, h3.size, fun k hk => h3.block k hk (by simp [Value.ownBlock])⟩⟩
    by_cases hm : s.size = 0
    · have := h4.2 ⟨rfl, hm⟩
      rw [this] at hb
      simp [Value.ownBlock] at hb
    · have hr2 := run_append_nil_string (P := P) w t u ty e i (.int .u8 0) ht hu hi hz s (by omega) (by omega) (by rw [hby]; omega)
      rw [hr] at hr2
      cases hr2
      simp [Value.ownBlock] at hb
      omega
  · by_cases hroom : n + s.size ≤ cap
    · have hcs' : cur.size = cap := by simpa using hcs
      have hr2 := Lib.run_append_room_string (P := P) w t u ty e i ht hu hi hsize g n cap cur hg s hroom (by omega)
      rw [hr] at hr2
      cases hr2
      exact .inl ⟨g, rfl, rfl, h3⟩
    · have holds : ∀ j u, xs[j]? = some u → w.cell? ((⟨g, 0, none⟩ : Addr).add j) = some u := hown.cells (g := g) rfl
      have hr2 := Lib.run_append_grow_string (P := P) w t u ty e i (.int .u8 0) ht hu hi hz ⟨g, 0, none⟩ n cap xs (by rw [hsize]; exact hown.1) holds s (by omega) (by omega) (growslice_fits (by omega) (by rw [hby]; omega))
      rw [hr] at hr2
      cases hr2
      refine .inr ⟨fun b hb => ?_, (Below.refl _ _).drew.alloc (by simp) _⟩
      simp [Value.ownBlock] at hb
      omega

def elemI (P : Program) (T : TypeId) : Option (TypeId × Nat × Nat) :=
  match P.underlying T with
  | some (.slice e) => (P.info? e).bind fun i => i.zero.bind fun z => bif Nat.beq z.cells.size i.size && !Nat.beq i.size 0 then some (e, i.size, i.bytes) else none
  | _ => none
theorem elemI_some {P : Program} {T e : TypeId} {n b : Nat} (h : elemI P T = some (e, n, b)) : ∃ i z, P.underlying T = some (.slice e) ∧ P.info? e = some i ∧ i.zero = some z ∧ i.size = n ∧ i.bytes = b ∧ z.cells.size = n ∧ 0 < n := by
  unfold elemI at h
  cases hu : P.underlying T with
  | none => simp [hu] at h
  | some dd =>
    rw [hu] at h
    cases dd with
    | slice e' =>
      simp only [Option.bind_eq_some_iff] at h
      obtain ⟨i, hi, z, hz, h⟩ := h
      cases hb : (Nat.beq z.cells.size i.size && !Nat.beq i.size 0) with
      | false => rw [hb] at h; cases h
      | true =>
        rw [hb] at h
        cases h
        simp only [Bool.and_eq_true, Bool.not_eq_true'] at hb
        refine ⟨i, z, rfl, hi, hz, rfl, rfl, Nat.eq_of_beq_eq_true hb.1, ?_⟩
        rcases Nat.eq_zero_or_pos i.size with h0 | h0
        · rw [h0] at hb; exact absurd hb.2 (by decide)
        · exact h0
    | _ => simp at h

theorem append_state {e : Env} {σ : Sta} {a : Act} {w w' : World} {ρ : Nat → Nat} {tv : Nat → Value} (hdf : a.defers = e.ds) (hsz : a.tmps.size = e.n) (hfr : Fr e.vol0 e.w0 w) (htv : ∀ t, t < 1000 → tv t = a.tmps.getD t undef)
    (hin : ∀ x, x ∈ e.ins → ρ x = e.ρ0 x) (hvz : ∀ p, vol σ ρ tv p → e.vol0 p ∨ e.w0.heap.size ≤ p.block) (h : RR e.V ρ tv w σ) {d t : Nat} (hd : d < e.n) (hn : e.n ≤ 1000) {T : TypeId} {sz : Nat} {els news : List (List D)} {v' : Value} {us nvs : List Value}
    (ht : σ t = some (.own T sz els)) (hown0 : w.ownsRow 0 T sz (tv t) els.length us) (hl0 : LIn (cold e.V σ ρ tv w) w els.flatten us) (hr0 : ∀ r, r ∈ els → r.length = sz) (hr1 : ∀ r, r ∈ news → r.length = sz) (hl1 : LIn (cold e.V σ ρ tv w) w news.flatten nvs)
    (hown : w'.ownsRow 0 T sz v' (els.length + news.length) (us ++ nvs)) (hg : Grows w w' (tv t) v') : R e (upd σ [(d, .own T sz (els ++ news)), (t, .non)]) (a.put (some d) v') w' := by
  have hulen := hown0.1
  let Z : Addr → Prop := fun p => (tv t).ownBlock = some p.block ∧ els.length * sz ≤ p.off
  have hZ : ∀ p, Z p → ∃ f, σ t = some f ∧ ex ρ tv t f = some p.block ∧ lo f ≤ p.off := fun p hp => ⟨_, ht, hp.1, hp.2⟩
  have hgb : w.grownBy w' (tv t).ownBlock := by
    rcases hg with ⟨g, h1, _, h3⟩ | ⟨_, h3⟩
    · rw [h1]; exact h3
    · exact ⟨h3.os, h3.tape, h3.output, h3.size, fun k hk _ => h3.block k hk⟩
  have hcell : ∀ p : Addr, p.block < w.heap.size → ¬ Z p → w'.cell? p = w.cell? p := by
    intro p hp hz
    rcases hg with ⟨g, h1, h2, h3⟩ | ⟨_, h3⟩
    · by_cases hpg : p.block = g
      · have hoff : p.off < els.length * sz := by
          rcases Nat.lt_or_ge p.off (els.length * sz) with h | h
          · exact h
          · exact absurd ⟨by rw [hpg]; exact h1, h⟩ hz
        rcases hown0.2 with ⟨h4, _⟩ | ⟨g', cap, cur, h4, _, h6, _⟩
        · rw [h4] at h1; simp [Value.ownBlock] at h1
        · rw [h4] at h1
          simp [Value.ownBlock] at h1
          subst h1
          rcases hown.2 with ⟨h7, _⟩ | ⟨g2, cap2, cur2, h7, _, h8, _⟩
          · rw [h7] at h2; simp [Value.ownBlock] at h2
          · rw [h7] at h2
            simp [Value.ownBlock] at h2
            subst h2
            cases hs : p.spot with
            | some sp =>
              have e1 : ∀ (W : World) (c : Array Value), W.heap[p.block]? = some (.cells c T (0, 0)) → W.cell? p = none := fun W c hW => by simp [World.cell?, hW, hs]
              rw [e1 w' cur2 (by rw [hpg]; exact h8), e1 w cur (by rw [hpg]; exact h6)]
            | none =>
              have hp' : p = (⟨g2, 0, none⟩ : Addr).add p.off := by
                rw [addr_add, Nat.zero_add]
                cases p
                simp_all
              have hlt : p.off < us.length := by omega
              rw [hp']
              have c1 := hown.cells (g := g2) (by rw [h7]; rfl) p.off us[p.off] (by rw [List.getElem?_append_left hlt, List.getElem?_eq_getElem hlt])
              have c2 := hown0.cells (g := g2) (by rw [h4]; rfl) p.off us[p.off] (List.getElem?_eq_getElem hlt)
              rw [c1, c2]
      · exact World.cell?_of_block (h3.block _ hp (by simp [hpg]))
    · exact h3.cell hp
  have hfr' : Fr e.vol0 e.w0 w' := by
    have hold : ∀ b, (tv t).ownBlock = some b → b < e.w0.heap.size → ∀ p : Addr, p.block = b → els.length * sz ≤ p.off → e.vol0 p := fun b hb hlt p hp ho => by
      rcases hvz p ⟨t, _, ht, by show (tv t).ownBlock = _; rw [hb, hp], ho⟩ with h1 | h1
      · exact h1
      · omega
    refine ⟨hgb.os.trans hfr.os, hgb.tape.trans hfr.tape, hgb.output.trans hfr.output, Nat.le_trans hfr.size hgb.size, fun p hp hnv => ?_, fun k hk hnv => ?_⟩
    · rw [hcell p (Nat.lt_of_lt_of_le hp hfr.size) (fun hz => hnv (hold _ hz.1 hp p rfl hz.2))]
      exact hfr.cell p hp hnv
    · rw [hgb.block k (Nat.lt_of_lt_of_le hk hfr.size) (fun e1 => hnv ⟨k, els.length * sz, none⟩ rfl (hold k e1.symm hk _ rfl (Nat.le_refl _)))]
      exact hfr.block k hk hnv
  have hlen2 : (els ++ news).length = els.length + news.length := List.length_append
  refine R.own (w := w) hdf hsz hfr' htv hin hvz hfr.size hd hn (h.own (.inl (by omega)) Z hZ hgb.size hcell (fun b hb hne => hgb.block b hb (fun e1 => hne _ ht e1.symm)) (us := us ++ nvs) (by rw [hlen2]; exact hown) (fun r hr => ?_) ?_ (fun p hp ho => ?_) (fun b hb => ?_))
  · rcases List.mem_append.1 hr with h1 | h1
    · exact hr0 r h1
    · exact hr1 r h1
  · rw [List.flatten_append]
    exact hl0.append hl1
  · rcases hg with ⟨g, h1, h2, _⟩ | ⟨h2, _⟩
    · refine .inl ⟨by rw [h1, ← h2]; exact hp, ?_⟩
      rw [hlen2, Nat.add_mul] at ho
      omega
    · exact .inr (h2 _ hp)
  · rcases hg with ⟨g, h1, h2, _⟩ | ⟨h2, _⟩
    · refine .inl ⟨_, ht, ?_⟩
      show (tv t).ownBlock = some b
      rw [h1, ← h2]; exact hb
    · exact .inr (h2 _ hb)

section
variable {P : Program} {o : Oper} {l : List (Nat × F)} {d : Nat}
theorem run_app {t : Nat} {x : Operand} {ts : Array TypeId} (ho : o.op = .call { callee := .builtin .append, args := #[.tmp t, x], argTypes := ts }) {a : Act} {w w' : World} {v : Value} (h : (Builtin.append_ ts o.type #[a.eval (.tmp t), a.eval x]).run P w = .ok v w') : (execOp a.eval o).run P w = .ok (.value v) w' := by
  simp only [execOp, ho, resolve, Sem.run_bind, Sem.run_pure, Result.andThen_ok, invoke, builtin, List.map_toArray, List.map_cons, List.map_nil, h]
theorem r_append {t : Nat} {x : Operand} {T e : TypeId} {sz b : Nat} {els news : List (List D)} (ho : o.op = .call { callee := .builtin .append, args := #[.tmp t, x], argTypes := #[T, T] }) (hd : o.dst = some d) (hT : elemI P T = some (e, sz, b))
    (ht : opd l (.tmp t) = some (.own e sz els)) (hx : opd l x = some (.c (.sl sz news))) (hbytes : (els.length + news.length) * b ≤ 140737488355328) (hsmall : els.length + news.length ≤ 140737488355328) : Does P o (t :: rdOf x) [] l [(d, .own e sz (els ++ news)), (t, .non)] := by
  intro en σ a w next Q hnn hdn hσ _ hR hnext
  obtain ⟨hdf, hsz, hfr, ρ, tv, htv, hin, hvz, hrr⟩ := hR
  obtain ⟨i, z, hu, hi, hz, h1, h2, h3, h4⟩ := elemI_some hT
  have hview := view_of hσ htv hrr
  have htl : t < 1000 := by
    simp only [opd] at ht
    cases hb : Nat.blt t 1000 with
    | false => rw [hb] at ht; cases ht
    | true => exact Nat.le_of_ble_eq_true hb
  have hσt : σ t = some (.own e sz els) := by
    rw [hσ t (by simp)]
    simp only [opd] at ht
    cases hb : Nat.blt t 1000 with
    | false => rw [hb] at ht; cases ht
    | true => rw [hb] at ht; exact ht
  obtain ⟨us, hown, hr0, hl0⟩ := hrr.rel t _ hσt
  obtain ⟨A, c, hxv, hc, hne, hr1, hcells⟩ := DIn.row (hview.fv hx (fun _ h => List.mem_cons_of_mem _ h) (by intro T xs e; cases e))
  have hev : a.eval (.tmp t) = tv t := (htv t htl).symm
  -- the new cells
  have hnv : ∃ nvs : List Value, LIn (cold en.V σ ρ tv w) w news.flatten nvs ∧ ∀ ad, A = some ad → ∀ j u, nvs[j]? = some u → w.cell? (ad.add j) = some u := by
    have hpt : ∀ k dd, news.flatten[k]? = some dd → ∃ ad u, A = some ad ∧ w.cell? (ad.add k) = some u ∧ DIn (cold en.V σ ρ tv w) w dd u := by
      intro k dd hk
      have hkl : k < news.length * sz := by
        rw [← flatten_len news sz hr1]
        rcases Nat.lt_or_ge k news.flatten.length with h | h
        · exact h
        · rw [List.getElem?_eq_none h] at hk; cases hk
      have hdm : k = (k / sz) * sz + k % sz := by rw [Nat.mul_comm]; exact (Nat.div_add_mod k sz).symm
      rw [hdm, flatten_at news sz hr1 _ _ (Nat.mod_lt _ h4)] at hk
      obtain ⟨ad, u, g1, _, g3, g4⟩ := hcells _ _ _ hk
      exact ⟨ad, u, g1, by rw [hdm]; exact g3, g4⟩
    have : ∀ (ds : List D) (k : Nat), (∀ j dd, ds[j]? = some dd → ∃ ad u, A = some ad ∧ w.cell? (ad.add (k + j)) = some u ∧ DIn (cold en.V σ ρ tv w) w dd u) → ∃ nvs : List Value, LIn (cold en.V σ ρ tv w) w ds nvs ∧ ∀ ad, A = some ad → ∀ j u, nvs[j]? = some u → w.cell? (ad.add (k + j)) = some u := by
      intro ds
      induction ds with
      | nil => exact fun k _ => ⟨[], trivial, fun _ _ j u h => by simp at h⟩
      | cons dd ds ih =>
        intro k h
        obtain ⟨ad, u, g1, g2, g3⟩ := h 0 dd rfl
        obtain ⟨nvs, g4, g5⟩ := ih (k + 1) (fun j d2 hj => by
          obtain ⟨ad2, u2, q1, q2, q3⟩ := h (j + 1) d2 (by simpa using hj)
          exact ⟨ad2, u2, q1, by rw [show k + 1 + j = k + (j + 1) by omega]; exact q2, q3⟩)
        refine ⟨u :: nvs, ⟨g3, g4⟩, fun ad' ha j u' hj => ?_⟩
        cases j with
        | zero => simp at hj; subst hj; rw [g1] at ha; cases ha; exact g2
        | succ j => rw [← g5 ad' ha j u' (by simpa using hj), show k + 1 + j = k + (j + 1) by omega]
    obtain ⟨nvs, g1, g2⟩ := this news.flatten 0 (fun j dd hj => by rw [Nat.zero_add]; exact hpt j dd hj)
    exact ⟨nvs, g1, fun ad ha j u hj => by have := g2 ad ha j u hj; rwa [Nat.zero_add] at this⟩
  obtain ⟨nvs, hl1, hnc⟩ := hnv
  have hnl : nvs.length = news.length * sz := by rw [← hl1.len, flatten_len news sz hr1]
  have hrun : ∃ v' w', (Builtin.append_ #[T, T] o.type #[a.eval (.tmp t), a.eval x]).run P w = .ok v' w' ∧ w'.ownsRow 0 e sz v' (els.length + news.length) (us ++ nvs) ∧ Grows w w' (tv t) v' := by
    rw [hev, hxv]
    cases A with
    | some ad => exact run_append_two (P := P) w T o.type e i z sz b hu hi hz h1 h2 h3 h4 (tv t) els.length us hown ad news.length c nvs hnl (hnc ad rfl) hl1.one hbytes hsmall
    | none =>
      -- nothing is appended
      have hn0 : news = [] := by
        cases news with
        | nil => rfl
        | cons r rs => obtain ⟨ad, e1⟩ := hne (by simp); cases e1
      subst hn0
      have hnvs : nvs = [] := by simpa using hnl
      subst hnvs
      refine ⟨tv t, w, ?_, by simpa using hown, ?_⟩
      · rcases hown.2 with ⟨q1, q2⟩ | ⟨g, cap, cur, q1, _, _, q4, _⟩
        · rw [q1]
          simp [Builtin.append_, run_underlying hu, sizeOf, typeInfo, hi, Builtin.lenOf, Builtin.firstCells]
        · rw [q1]
          simp [Builtin.append_, run_underlying hu, sizeOf, typeInfo, hi, Builtin.lenOf, Builtin.firstCells, q4, storeCells]
      · rcases hown.2 with ⟨q1, q2⟩ | ⟨g, cap, cur, q1, _⟩
        · refine .inr ⟨fun b hb => ?_, Below.refl _ _⟩
          rw [q1] at hb; simp [Value.ownBlock] at hb
        · exact .inl ⟨g, by rw [q1]; rfl, by rw [q1]; rfl, ⟨rfl, rfl, rfl, Nat.le_refl _, fun _ _ _ => rfl⟩⟩
  obtain ⟨v', w', hr, how, hg⟩ := hrun
  unfold wq
  rw [run_app ho hr, uq_value, hd]
  exact hnext _ _ (append_state hdf hsz hfr htv hin hvz hrr (hdn d hd) hnn hσt hown hl0 hr0 hr1 hl1 how hg)

def byteT (P : Program) (e : TypeId) : Bool := match (P.info? e).bind (·.zero) with | some (.int .u8 n) => decide (n = 0) | _ => false
def bcells (s : List UInt8) : List (List D) := s.map fun x => [.lit (.int .u8 (x.toNat : Int))]
theorem bcells_flat (s : List UInt8) : (bcells s).flatten = s.map fun x => D.lit (.int .u8 (x.toNat : Int)) := by
  induction s with
  | nil => rfl
  | cons x s ih => simp [bcells] at ih ⊢; exact ih
theorem r_appendS {t : Nat} {x : Operand} {T U e : TypeId} {s : List UInt8} {els : List (List D)} (ho : o.op = .call { callee := .builtin .append, args := #[.tmp t, x], argTypes := #[T, U] }) (hd : o.dst = some d) (hT : elemI P T = some (e, 1, 1)) (hz0 : byteT P e = true) (hU : stringT P U = true)
    (ht : opd l (.tmp t) = some (.own e 1 els)) (hx : opd l x = some (.c (.lit (str s)))) (hsmall : els.length + s.length ≤ 140737488355328) : Does P o (t :: rdOf x) [] l [(d, .own e 1 (els ++ bcells s)), (t, .non)] := by
  intro en σ a w next Q hnn hdn hσ _ hR hnext
  obtain ⟨hdf, hsz, hfr, ρ, tv, htv, hin, hvz, hrr⟩ := hR
  obtain ⟨i, z, hu, hi, hz, h1, h2, h3, h4⟩ := elemI_some hT
  have hview := view_of hσ htv hrr
  have htl : t < 1000 := by
    simp only [opd] at ht
    cases hb : Nat.blt t 1000 with
    | false => rw [hb] at ht; cases ht
    | true => exact Nat.le_of_ble_eq_true hb
  have hσt : σ t = some (.own e 1 els) := by
    rw [hσ t (by simp)]
    simp only [opd] at ht
    cases hb : Nat.blt t 1000 with
    | false => rw [hb] at ht; cases ht
    | true => rw [hb] at ht; exact ht
  have hzz : i.zero = some (.int .u8 0) := by
    unfold byteT at hz0
    rw [hi, Option.bind_some, hz] at hz0
    rw [hz]
    cases z with
    | int k n =>
      cases k with
      | u8 =>
        have : n = 0 := by simpa using hz0
        rw [this]
      | _ => simp at hz0
    | _ => simp at hz0
  have hus : P.underlying U = some .string := by
    unfold stringT at hU
    cases hq : P.underlying U with
    | none => simp [hq] at hU
    | some dd => rw [hq] at hU; cases dd <;> first | rfl | cases hU
  obtain ⟨us, hown, hr0, hl0⟩ := hrr.rel t _ hσt
  have hxv := lit_val (hview.fv hx (fun _ h => List.mem_cons_of_mem _ h) (by intro T xs e; cases e))
  have hev : a.eval (.tmp t) = tv t := (htv t htl).symm
  obtain ⟨v', w', hr, how, hg⟩ := run_append_twoS (P := P) w T U o.type e i hu hus hi hzz h1 h2 (tv t) els.length us hown (⟨s.toArray⟩ : ByteArray) (by simpa [ByteArray.size] using hsmall)
  have hr' : (Builtin.append_ #[T, U] o.type #[a.eval (.tmp t), a.eval x]).run P w = .ok v' w' := by rw [hev, hxv]; exact hr
  unfold wq
  rw [run_app ho hr', uq_value, hd]
  have hsl : (⟨s.toArray⟩ : ByteArray).size = (bcells s).length := by simp [ByteArray.size, bcells]
  have hsc : Lib.strCells (⟨s.toArray⟩ : ByteArray) = s.map fun x => Value.int .u8 (x.toNat : Int) := by simp [Lib.strCells]
  rw [hsl, hsc] at how
  refine hnext _ _ (append_state hdf hsz hfr htv hin hvz hrr (hdn d hd) hnn hσt hown hl0 hr0 (news := bcells s) (fun r hr => ?_) ?_ how hg)
  · unfold bcells at hr
    obtain ⟨x, _, rfl⟩ := List.mem_map.1 hr
    rfl
  · rw [bcells_flat]
    have := LIn.lits (S := cold en.V σ ρ tv w) (w := w) (vs := s.map fun x => Value.int .u8 (x.toNat : Int)) (fun v hv => by
      obtain ⟨x, _, rfl⟩ := List.mem_map.1 hv
      rfl)
    rw [List.map_map] at this
    exact this

theorem RR.moveOwn {V : Addr → Prop} {ρ : Nat → Nat} {tv : Nat → Value} {w : World} {σ : Sta} (h : RR V ρ tv w σ) {t d : Nat} (hd : d < 1000) {T : TypeId} {sz : Nat} {els : List (List D)} (ht : σ t = some (.own T sz els)) :
    RR V ρ (setv tv d (tv t)) w (upd σ [(d, .own T sz els), (t, .non)]) ∧ ∀ p, vol (upd σ [(d, .own T sz els), (t, .non)]) ρ (setv tv d (tv t)) p → vol σ ρ tv p ∨ w.heap.size ≤ p.block := by
  obtain ⟨us, hown, hr, hl⟩ := h.rel t _ ht
  exact h.own (.inl hd) (fun p => (tv t).ownBlock = some p.block ∧ els.length * sz ≤ p.off) (fun p hp => ⟨_, ht, hp.1, hp.2⟩) (Nat.le_refl _) (fun _ _ _ => rfl) (fun _ _ _ => rfl) hown hr hl (fun p hp ho => .inl ⟨hp, ho⟩) (fun b hb => .inl ⟨_, ht, hb⟩)
theorem Does.moveOwn {x : Operand} {t : Nat} {T : TypeId} {sz : Nat} {els : List (List D)} (hx : x = .tmp t) (hd : o.dst = some d) (ht : opd l x = some (.own T sz els)) (hrun : ∀ a w, (execOp (Act.eval a) o).run P w = .ok (.value (a.eval x)) w) : Does P o [t] [] l [(d, .own T sz els), (t, .non)] := by
  intro en σ a w next Q hnn hdn hσ _ hR hnext
  obtain ⟨hdf, hsz, hfr, ρ, tv, htv, hin, hvz, hrr⟩ := hR
  subst hx
  simp only [opd] at ht
  cases hb : Nat.blt t 1000 with
  | false => rw [hb] at ht; cases ht
  | true =>
    rw [hb, cond_true] at ht
    have htl : t < 1000 := Nat.le_of_ble_eq_true hb
    have hσt : σ t = some (.own T sz els) := by rw [hσ t (by simp)]; exact ht
    have hev : a.eval (.tmp t) = tv t := (htv t htl).symm
    unfold wq
    rw [hrun, uq_value, hd, hev]
    exact hnext _ _ (R.own (w := w) hdf hsz hfr htv hin hvz hfr.size (hdn d hd) hnn (hrr.moveOwn (Nat.lt_of_lt_of_le (hdn d hd) hnn) hσt))
theorem r_moveOwn {x : Operand} {t : Nat} {T : TypeId} {sz : Nat} {els : List (List D)} (ho : o.op = .move x) (hx : x = .tmp t) (hd : o.dst = some d) (ht : opd l x = some (.own T sz els)) : Does P o [t] [] l [(d, .own T sz els), (t, .non)] :=
  Does.moveOwn hx hd ht fun a w => by unfold execOp; rw [ho]; rfl
theorem r_assignOwn {x : Operand} {t : Nat} {T : TypeId} {sz : Nat} {els : List (List D)} (ho : o.op = .assign x) (hx : x = .tmp t) (hd : o.dst = some d) (ht : opd l x = some (.own T sz els)) : Does P o [t] [] l [(d, .own T sz els), (t, .non)] :=
  Does.moveOwn hx hd ht fun a w => by unfold execOp; rw [ho]; rfl
end

end Go.Proofs.YtlagglkpbnbmeaaGreatDoor

/- Shadows: rows that go into variables and out of them; what follows from what; the other operations. -/
namespace Go.Proofs.YtlagglkpbnbmeaaGreatDoor
set_option linter.unusedVariables false
open Go Go.RowKit

section
variable {P : Program} {o : Oper} {l : List (Nat × F)} {d : Nat}
theorem r_loadOwn {T T0 e : TypeId} {x : Operand} {y n g sz : Nat} {xs : List C} {els : List (List D)} (ho : o.op = .load T x) (hd : o.dst = some d) (hT : plainT P T = true) (hx : opd l x = some (.ptr y n)) (hy : find l y = some (.var T0 xs)) (hu : xs[n]? = some (.gh g)) (hg : find l g = some (.own e sz els)) (hmm : (Nat.blt n mapT && !Nat.beq T0 mapT) = true := by exact rfl) :
    Does P o (rdOf x ++ [y, g]) [] l [(d, .own e sz els), (g, .non)] := by
  intro en σ a w next Q hnn hdn hσ _ hR hnext
  obtain ⟨hdf, hsz, hfr, ρ, tv, htv, hin, hvz, hrr⟩ := hR
  have hview := view_of hσ htv hrr
  have h1 : a.eval x = .pointer (some ⟨ρ y, n, none⟩) := Eq.trans (hview.fv hx (fun _ h => List.mem_append_left _ h) (by intro T xs e; cases e)) (ptrV_ptr (and_mapT hmm).1)
  obtain ⟨vs, h2, h3⟩ := hview.vr y _ _ hy (List.mem_append_right _ (by simp))
  rw [objV_row _ (and_mapT hmm).2] at h2
  obtain ⟨v, h4, h5⟩ := h3.get n _ hu
  have hv : v = tv g := h5.1.1
  have hσg : σ g = some (.own e sz els) := by rw [hσ g (List.mem_append_right _ (by simp))]; exact hg
  have hrun : (execOp a.eval o).run P w = .ok (.value (tv g)) w := by
    simp only [execOp, ho, h1, Sem.run_bind, run_load_plain hT ((row_cell h2 n).trans h4)]
    rw [hv]; rfl
  unfold wq
  rw [hrun, uq_value, hd]
  exact hnext _ _ (R.own (w := w) hdf hsz hfr htv hin hvz hfr.size (hdn d hd) hnn (hrr.moveOwn (Nat.lt_of_lt_of_le (hdn d hd) hnn) hσg))
def noGh (g : Nat) (xs : List C) : Bool := xs.all fun | .gh h => !Nat.beq g h | _ => true
theorem noGh_ok {g : Nat} {xs : List C} (h : noGh g xs = true) : C.gh g ∉ xs := by
  intro hm
  unfold noGh at h
  rw [List.all_eq_true] at h
  have := h _ hm
  simp [Nat.beq_refl] at this
theorem refB_gh {g : Nat} {T : TypeId} {xs : List C} (h : refB g (.var T xs) = false) : C.gh g ∉ xs := by
  intro hm
  have h4 : refB g (.var T xs) = true := List.any_eq_true.2 ⟨_, hm, Nat.beq_refl g⟩
  rw [h4] at h; cases h
theorem r_storeOwn (g : Nat) {T T0 e : TypeId} {x : Operand} {t v n sz : Nat} {xs : List C} {els : List (List D)} (ho : o.op = .store T x (.tmp t)) (hd : o.dst = none) (hT : sizeT P T = some 1) (hx : opd l x = some (.ptr v n)) (hv : find l v = some (.var T0 xs)) (hn : Nat.blt n xs.length = true) (ht : opd l (.tmp t) = some (.own e sz els))
    (hng : (noGh g (xs.set n (.d .any)) && Nat.ble 1000 g && Nat.blt g 2000 && Nat.ble 2000 v) = true) (hmm : (Nat.blt n mapT && !Nat.beq T0 mapT) = true := by exact rfl) : Does P o (v :: t :: rdOf x) [(g, [v])] l [(v, .var T0 (splice xs n [.gh g])), (g, .own e sz els), (t, .non)] := by
  have hn : n < xs.length := Nat.le_of_ble_eq_true hn
  simp only [Bool.and_eq_true] at hng
  obtain ⟨⟨⟨hng, hg1⟩, hg2⟩, hv2⟩ := hng
  have hg1 := Nat.le_of_ble_eq_true hg1
  have hg2 : g < 2000 := Nat.le_of_ble_eq_true hg2
  have hv2 := Nat.le_of_ble_eq_true hv2
  have hng := noGh_ok hng
  intro en σ a w next Q hnn hdn hσ hfresh hR hnext
  obtain ⟨hdf, hsz, hfr, ρ, tv, htv, hin, hvz, hrr⟩ := hR
  have hview := view_of hσ htv hrr
  have h1 : a.eval x = .pointer (some ⟨ρ v, n, none⟩) := Eq.trans (hview.fv hx (fun _ h => by simp [h]) (by intro T xs e; cases e)) (ptrV_ptr (and_mapT hmm).1)
  have htl : t < 1000 := by
    simp only [opd] at ht
    cases hb : Nat.blt t 1000 with
    | false => rw [hb] at ht; cases ht
    | true => exact Nat.le_of_ble_eq_true hb
  have hσt : σ t = some (.own e sz els) := by
    rw [hσ t (by simp)]
    simp only [opd] at ht
    cases hb : Nat.blt t 1000 with
    | false => rw [hb] at ht; cases ht
    | true => rw [hb] at ht; exact ht
  have hσv : σ v = some (.var T0 xs) := by rw [hσ v (by simp)]; exact hv
  have hev : a.eval (.tmp t) = tv t := (htv t htl).symm
  obtain ⟨vs, hb, hc⟩ := hrr.rel v _ hσv
  rw [objV_row _ (and_mapT hmm).2] at hb
  have hlen := hc.len
  -- the row goes to the ghost
  have hfr2 : ∀ k f, k ≠ v → σ k = some f → refB g f = false := fun k f hk hf => (hfresh (g, [v]) (by simp)).2 k f (by simpa using hk) hf
  -- first: nothing is known of the cell
  have hone : (tv t).oneCell' = true := by
    obtain ⟨us, hown, _⟩ := hrr.rel t _ hσt
    rcases hown.2 with ⟨h, _⟩ | ⟨g', cap, cur, h, _⟩ <;> rw [h] <;> rfl
  obtain ⟨hw1, hw2⟩ := hrr.write (w' := w.setCells (ρ v) n [tv t]) (ys := xs.set n (.d .any)) hσv (setCells_size _ _ _ _) (fun k hk => setCells_other _ _ _ _ _ hk) ((setCells_row (ρ v) T0 [tv t] n w vs hb (by simp; omega)).trans (by rw [objV_row _ (and_mapT hmm).2])) (by
    have e1 : vs.take n ++ [tv t] ++ vs.drop (n + [tv t].length) = vs.set n (tv t) := by
      rw [List.set_eq_take_append_cons_drop]
      simp [show n < vs.length by omega]
    rw [e1]
    exact hc.set n ⟨.any _ hone, trivial⟩)
  have hσt1 : upd σ [(v, .var T0 (xs.set n (.d .any)))] t = some (.own e sz els) := by rw [upd_one, if_neg (by omega)]; exact hσt
  obtain ⟨us, hown, hro, hlo⟩ := hw1.rel t _ hσt1
  have hgfree : ∀ k T xs', upd σ [(v, .var T0 (xs.set n (.d .any)))] k = some (.var T xs') → C.gh g ∉ xs' := by
    intro k T xs' hk
    rw [upd_one] at hk
    by_cases e1 : k = v
    · rw [if_pos e1] at hk; cases hk; exact hng
    · rw [if_neg e1] at hk
      exact refB_gh (hfr2 k _ e1 hk)
  obtain ⟨ho1, ho2⟩ := hw1.own (t := t) (d := g) (w' := w.setCells (ρ v) n [tv t]) (.inr hgfree) (v := tv t) (fun p => (tv t).ownBlock = some p.block ∧ els.length * sz ≤ p.off) (fun p hp => ⟨_, hσt1, hp.1, hp.2⟩) (Nat.le_refl _) (fun _ _ _ => rfl) (fun _ _ _ => rfl) hown hro hlo (fun p hp hoo => .inl ⟨hp, hoo⟩) (fun b hbb => .inl ⟨_, hσt1, hbb⟩)
  -- then the cell is the ghost's
  have hσv2 : upd (upd σ [(v, .var T0 (xs.set n (.d .any)))]) [(g, .own e sz els), (t, .non)] v = some (.var T0 (xs.set n (.d .any))) := by
    unfold upd
    simp only [find_cons]
    rw [if_neg (by omega), if_neg (by omega)]
    simp [find]
  obtain ⟨vs2, hb2, hc2⟩ := ho1.rel v _ hσv2
  have hvs2 : vs2 = vs.take n ++ [tv t] ++ vs.drop (n + 1) := by
    have := setCells_row (ρ v) T0 [tv t] n w vs hb (by simp; omega)
    rw [this, objV_row _ (and_mapT hmm).2] at hb2
    simp at hb2
    rw [← hb2]; simp
  have hcell : CIn (cold en.V (upd (upd σ [(v, .var T0 (xs.set n (.d .any)))]) [(g, .own e sz els), (t, .non)]) ρ (setv tv g (tv t)) (w.setCells (ρ v) n [tv t])) (w.setCells (ρ v) n [tv t]) (setv tv g (tv t)) (splice xs n [.gh g]) vs2 := by
    have h5 := CIn.set n hc2 (c := .gh g) (v := tv t) ⟨⟨(setv_same _ _ _).symm, ⟨hg1, hg2⟩, hone⟩, trivial⟩
    have e2 : (xs.set n (.d .any)).set n (.gh g) = splice xs n [.gh g] := by
      rw [List.set_set]
      unfold splice
      rw [List.set_eq_take_append_cons_drop]
      simp [show n < xs.length from hn]
    have e3 : vs2.set n (tv t) = vs2 := by
      rw [hvs2]
      have : n = (vs.take n).length := by rw [List.length_take]; omega
      rw [List.append_assoc]
      conv => lhs; rw [this]
      rw [← this]
      simp [List.set_append, show ¬ n < min n vs.length by omega, show n - min n vs.length = 0 by omega]
    rw [e2, e3] at h5
    exact h5
  obtain ⟨hf1, hf2⟩ := ho1.write (w' := w.setCells (ρ v) n [tv t]) hσv2 rfl (fun _ _ => rfl) hb2 hcell
  have hstate : upd (upd (upd σ [(v, .var T0 (xs.set n (.d .any)))]) [(g, .own e sz els), (t, .non)]) [(v, .var T0 (splice xs n [.gh g]))] = upd σ [(v, .var T0 (splice xs n [.gh g])), (g, .own e sz els), (t, .non)] := by
    funext k
    unfold upd
    simp only [find_cons]
    by_cases k1 : v = k
    · simp [k1]
    · by_cases k2 : g = k
      · simp [k1, k2, find]
      · by_cases k3 : t = k <;> simp [k1, k2, k3, find]
  rw [hstate] at hf1 hf2
  have hrun : (execOp a.eval o).run P w = .ok .skip (w.setCells (ρ v) n [tv t]) := by
    have hcl : (tv t).cells = #[tv t] := by revert hone; cases tv t <;> simp [Value.oneCell', Value.cells]
    have := run_storeAt (P := P) (T := T) (o := n) (v := tv t) hb (by rw [hcl]; exact hT) (by rw [hcl]; simp; omega) (by rw [hcl]; intro u hu; simp at hu; rw [hu]; exact hone)
    rw [hcl] at this
    simp only [execOp, ho, h1, hev, Sem.run_bind, this]
    rfl
  unfold wq
  rw [hrun, uq_skip, hd]
  refine hnext _ _ ⟨hdf, hsz, hfr.write (b := ρ v) (setCells_keep _ _ _ _) (setCells_size _ _ _ _) (fun k hk => setCells_other _ _ _ _ _ hk) (fun hlt p hp => ?_), ρ, setv tv g (tv t), fun t' ht' => ?_, hin, fun p hp => ?_, hf1⟩
  · rcases hvz p ⟨v, _, hσv, by rw [hp]; rfl, Nat.zero_le _⟩ with h3 | h3
    · exact h3
    · omega
  · rw [setv_other _ _ _ (by omega)]; exact htv t' ht'
  · rcases ho2 p (hf2 p hp) with h3 | h3
    · exact hvz p (hw2 p h3)
    · rw [setCells_size] at h3; have := hfr.size; exact .inr (by omega)
end

def Turns (l l' : List (Nat × F)) (fr : List (Nat × List Nat)) : Prop := ∀ e a w, (∀ q, q ∈ fr → q.1 ∉ e.ins) → R e (find l) a w → R e (find l') a w
theorem J_turn {P : Program} {n : Nat} {ins : List Nat} {l l' : List (Nat × F)} {K : Cont} {c : Code} {fr : List (Nat × List Nat)} (h : Turns l l' fr) (hf : (fr.all fun q => !ins.any fun y => Nat.beq q.1 y) = true) (hJ : J P n ins l' c K) : J P n ins l c K :=
  fun ro e Q h1 h2 hK a w hR => hJ ro e Q h1 h2 hK a w (h e a w (fun q hq hm => by
    rw [List.all_eq_true] at hf
    have := hf q hq
    rw [h2] at hm
    rw [any_beq.2 hm] at this
    cases this) hR)
theorem t_ownC {l : List (Nat × F)} (t : Nat) {T : TypeId} {sz : Nat} {els : List (List D)} (ht : find l t = some (.own T sz els)) : Turns l ((t, .c (.sl sz els)) :: l) [] := by
  intro e a w _ hR
  obtain ⟨hdf, hsz, hfr, ρ, tv, htv, hin, hvz, hrr⟩ := hR
  have hst : find ((t, .c (.sl sz els)) :: l) = upd (find l) [(t, .c (.sl sz els))] := by funext k; rw [upd_find]; rfl
  rw [hst]
  have hnew : ∀ k g b, upd (find l) [(t, .c (.sl sz els))] k = some g → ex ρ tv k g = some b → k ≠ t ∧ find l k = some g := by
    intro k g b hk hb
    rw [upd_one] at hk
    by_cases h : k = t
    · rw [if_pos h] at hk; cases hk; cases hb
    · rw [if_neg h] at hk; exact ⟨h, hk⟩
  have hvol : ∀ p, vol (upd (find l) [(t, .c (.sl sz els))]) ρ tv p → vol (find l) ρ tv p := fun p ⟨k, g, h1, h2, h3⟩ => ⟨k, g, (hnew k g _ h1 h2).2, h2, h3⟩
  obtain ⟨us, hown, hr, hl⟩ := hrr.rel t _ ht
  have hcold : ∀ p, cold e.V (find l) ρ tv w p → cold e.V (upd (find l) [(t, .c (.sl sz els))]) ρ tv w p := fun p hp => ⟨hp.1, hp.2.1, fun h => hp.2.2 (hvol p h)⟩
  refine ⟨hdf, hsz, hfr, ρ, tv, htv, hin, fun p hp => hvz p (hvol p hp), hrr.to (Nat.le_refl _) (fun p hp => ⟨(hcold p hp).2.2, rfl⟩) (fun k g hk => ?_) (fun k g k' g' b h1 h2 h3 h4 => hrr.dist _ _ _ _ _ (hnew _ _ _ h1 h3).2 (hnew _ _ _ h2 h4).2 h3 h4) (fun k g b h1 h2 => hrr.exb _ _ _ (hnew _ _ _ h1 h2).2 h2)⟩
  have hk0 := hk
  rw [upd_one] at hk
  by_cases h : k = t
  · rw [if_pos h] at hk
    cases hk
    refine .inr ?_
    rw [h]
    show DIn _ _ _ _
    rcases hown.2 with ⟨h1, h2⟩ | ⟨g, cap, cur, h1, _, h3, h4, _⟩
    · rw [h1]
      have : els = [] := List.eq_nil_of_length_eq_zero h2
      rw [this]
      exact DIn.nil _ _
    · have hcells := hown.cells (g := g) (by rw [h1]; rfl)
      have hb := hrr.exb t _ g ht (by show (tv t).ownBlock = _; rw [h1]; rfl)
      rw [h1]
      refine DIn.rows h4 hr (hl.mono hcold (fun _ _ => rfl)) (fun j u hj => ?_)
      have hc := hcells j u hj
      refine ⟨⟨?_, ?_, ?_⟩, hc⟩
      · rw [block_of_add]; exact hb.1
      · exact hb.2 _ (by rw [block_of_add])
      · rintro ⟨k', g', q1, q2, q3⟩
        rw [block_of_add] at q2
        obtain ⟨q4, q5⟩ := hnew k' g' _ q1 q2
        exact q4 (hrr.dist _ _ _ _ _ q5 ht q2 (by show (tv t).ownBlock = _; rw [h1]; rfl))
  · rw [if_neg h] at hk
    exact .inl ⟨hk, hrr.same hk rfl (fun _ _ => rfl) (fun _ _ _ => rfl) (fun _ _ _ => rfl) (fun _ _ => rfl)⟩
inductive WkC (l : List (Nat × F)) : C → C → Prop
  | refl (x : C) : WkC l x x
  | d {x y : D} : WkD x y → WkC l (.d x) (.d y)
  | gh {g : Nat} {x : D} : find l g = some (.c x) → WkC l (.gh g) (.d x)
  | no (g : Nat) : WkC l (.gh g) (.d .any)
def WkCs (l : List (Nat × F)) : List C → List C → Prop
  | [], [] => True
  | x :: xs, y :: ys => WkC l x y ∧ WkCs l xs ys
  | _, _ => False
theorem WkCs.ok {l : List (Nat × F)} {V : Addr → Prop} {ρ : Nat → Nat} {tv : Nat → Value} {w : World} (h : RR V ρ tv w (find l)) : ∀ {xs ys : List C} {vs : List Value}, WkCs l xs ys → CIn (cold V (find l) ρ tv w) w tv xs vs → CIn (cold V (find l) ρ tv w) w tv ys vs
  | [], [], [], _, _ => trivial
  | x :: xs, y :: ys, v :: vs, hw, hc => by
    have hhd : CIn (cold V (find l) ρ tv w) w tv [x] [v] ∧ CIn (cold V (find l) ρ tv w) w tv xs vs := by
      cases x with
      | d _ => exact ⟨⟨hc.1, trivial⟩, hc.2⟩
      | gh _ => exact ⟨⟨hc.1, trivial⟩, hc.2⟩
    have ih := WkCs.ok h hw.2 hhd.2
    have hd := hw.1
    have h1 := hhd.1
    clear hc hhd hw
    cases hd with
    | refl => cases x with
      | d _ => exact ⟨h1.1, ih⟩
      | gh _ => exact ⟨h1.1, ih⟩
    | d hx => exact ⟨hx.ok h1.1, ih⟩
    | gh hx => exact ⟨by rw [h1.1.1]; exact h.rel _ _ hx, ih⟩
    | no g => exact ⟨.any _ h1.1.2.2, ih⟩
  | [], _ :: _, _, hw, _ => hw.elim
  | _ :: _, [], _, hw, _ => hw.elim
  | [], [], _ :: _, _, hc => hc.elim
  | x :: _, _ :: _, [], _, hc => by cases x <;> exact hc.elim
theorem t_wkV {l : List (Nat × F)} (x : Nat) {T : TypeId} {xs : List C} (ys : List C) (hx : find l x = some (.var T xs)) (hw : WkCs l xs ys) : Turns l ((x, .var T ys) :: l) [] := by
  intro e a w _ hR
  obtain ⟨hdf, hsz, hfr, ρ, tv, htv, hin, hvz, hrr⟩ := hR
  have hst : find ((x, .var T ys) :: l) = upd (find l) [(x, .var T ys)] := by funext k; rw [upd_find]; rfl
  rw [hst]
  obtain ⟨vs, hb, hc⟩ := hrr.rel x _ hx
  obtain ⟨h1, h2⟩ := hrr.write (w' := w) hx rfl (fun _ _ => rfl) hb (WkCs.ok hrr hw hc)
  exact ⟨hdf, hsz, hfr, ρ, tv, htv, hin, fun p hp => hvz p (h2 p hp), h1⟩

theorem t_nilGh {l : List (Nat × F)} (x n g : Nat) {T : TypeId} {xs : List C} (e : TypeId) (sz : Nat) (hx : find l x = some (.var T xs)) (hn : xs[n]? = some (.d (.lit (.slice none 0 0)))) (hg : (Nat.ble 1000 g && Nat.blt g 2000 && Nat.ble 2000 x && freshIn (g, []) l) = true) :
    Turns l ((x, .var T (xs.set n (.gh g))) :: (g, .own e sz []) :: l) [(g, [])] := by
  intro en a w _ hR
  simp only [Bool.and_eq_true] at hg
  obtain ⟨⟨⟨hg1, hg2⟩, hx2⟩, hfr0⟩ := hg
  have hg1 := Nat.le_of_ble_eq_true hg1
  have hg2 : g < 2000 := Nat.le_of_ble_eq_true hg2
  have hx2 := Nat.le_of_ble_eq_true hx2
  obtain ⟨hdf, hsz, hfr, ρ, tv, htv, hin, hvz, hrr⟩ := hR
  have hgfree : ∀ k T xs', find l k = some (.var T xs') → C.gh g ∉ xs' := fun k T xs' hk => refB_gh (freshIn_ok (q := (g, [])) hfr0 k _ (by simp) hk)
  obtain ⟨h1, h2⟩ := hrr.own (t := g) (d := g) (w' := w) (T := e) (sz := sz) (els := []) (v := .slice none 0 0) (us := []) (.inr hgfree) (fun _ => False) (fun p h => h.elim) (Nat.le_refl _) (fun _ _ _ => rfl) (fun _ _ _ => rfl) (World.ownsRow_nil _ _ _ _) (fun _ h => by simp at h) trivial (fun p hp => by simp [Value.ownBlock] at hp) (fun b hp => by simp [Value.ownBlock] at hp)
  have hσx : upd (find l) [(g, .own e sz []), (g, .non)] x = some (.var T xs) := by
    unfold upd
    simp only [find_cons]
    rw [if_neg (by omega), if_neg (by omega)]
    simp [find, hx]
  obtain ⟨vs, hb, hc⟩ := h1.rel x _ hσx
  obtain ⟨v, hv1, hv2⟩ := hc.get n _ hn
  have hvn : v = .slice none 0 0 := by have := hv2.1; cases this; rfl
  have hc2 := CIn.set n hc (c := .gh g) (v := v) ⟨⟨by rw [setv_same]; exact hvn, ⟨hg1, hg2⟩, by rw [hvn]; rfl⟩, trivial⟩
  have hset : vs.set n v = vs := by
    have hlt : n < vs.length := by
      rcases Nat.lt_or_ge n vs.length with h | h
      · exact h
      · rw [List.getElem?_eq_none h] at hv1; cases hv1
    rw [List.getElem?_eq_getElem hlt] at hv1
    cases hv1
    exact List.set_getElem_self ..
  rw [hset] at hc2
  obtain ⟨h3, h4⟩ := h1.write (w' := w) hσx rfl (fun _ _ => rfl) hb hc2
  have hst : upd (upd (find l) [(g, .own e sz []), (g, .non)]) [(x, .var T (xs.set n (.gh g)))] = find ((x, .var T (xs.set n (.gh g))) :: (g, .own e sz []) :: l) := by
    funext k
    unfold upd
    simp only [find_cons]
    by_cases k1 : x = k <;> by_cases k2 : g = k <;> simp [k1, k2, find]
  rw [hst] at h3 h4
  refine ⟨hdf, hsz, hfr, ρ, _, fun t' ht' => ?_, hin, fun p hp => ?_, h3⟩
  · rw [setv_other _ _ _ (by omega)]; exact htv t' ht'
  · rcases h2 p (h4 p hp) with h5 | h5
    · exact hvz p h5
    · have := hfr.size; exact .inr (by omega)

end Go.Proofs.YtlagglkpbnbmeaaGreatDoor

/- Shadows: the other operations. -/
namespace Go.Proofs.YtlagglkpbnbmeaaGreatDoor
set_option linter.unusedVariables false
open Go Go.RowKit

section
variable {P : Program} {o : Oper} {l : List (Nat × F)} {d : Nat}
theorem r_catS {T T' : TypeId} {x y : Operand} {s t : List UInt8} (ho : o.op = .binOp .add T x y T') (hd : o.dst = some d) (hx : opd l x = some (.c (.lit (str s)))) (hy : opd l y = some (.c (.lit (str t)))) (hb : s.length + t.length ≤ 9223372036854775807) :
    Does P o (rdOf x ++ rdOf y) [] l [(d, .c (.lit (str (s ++ t))))] :=
  r_bin ho hd hx hy rfl fun w => by
    simp [eqGuard, binOp, Op.stringOp, ByteArray.mk_append_mk]
    have e1 : (⟨s.toArray⟩ : ByteArray).size = s.length := by simp [ByteArray.size]
    have e2 : (⟨t.toArray⟩ : ByteArray).size = t.length := by simp [ByteArray.size]
    rw [e1, e2]
    omega
theorem bcells_len (s : List UInt8) : (bcells s).length = s.length := by simp [bcells]
theorem bcells_at (s : List UInt8) (i : Nat) (h : i < s.length) : D.at (bcells s) i 0 = some (.lit (.int .u8 ((s[i]'h).toNat : Int))) := by
  simp [D.at, bcells, h]
theorem bytes_fold (bs : List UInt8) : ((bs.map (fun x => (x.toNat : Int))).foldl (fun r n => r.push (UInt8.ofNat n.toNat)) ByteArray.empty) = (⟨bs.toArray⟩ : ByteArray) := by
  rw [foldl_push_bytes]
  have e : ((fun n : Int => UInt8.ofNat n.toNat) ∘ fun x : UInt8 => (x.toNat : Int)) = id := by funext x; simp
  rw [List.map_map, e, List.map_id]
  show (⟨(#[] : Array UInt8) ++ bs.toArray⟩ : ByteArray) = _
  simp
def byteRow (P : Program) (T D' : TypeId) : Bool :=
  match P.underlying T with
  | some (.slice e) => (match P.underlying e with | some (.int .u8) => true | _ => false) && stringT P D'
  | _ => false
theorem byteRow_some {P : Program} {T D' : TypeId} (h : byteRow P T D' = true) : ∃ e, P.underlying T = some (.slice e) ∧ P.underlying e = some (.int .u8) ∧ P.underlying D' = some .string := by
  unfold byteRow at h
  cases hu : P.underlying T with
  | none => simp [hu] at h
  | some dd =>
    rw [hu] at h
    cases dd with
    | slice e =>
      simp only [Bool.and_eq_true] at h
      obtain ⟨h1, h2⟩ := h
      refine ⟨e, rfl, ?_, ?_⟩
      · cases he : P.underlying e with
        | none => simp [he] at h1
        | some d2 =>
          rw [he] at h1
          cases d2 with
          | int k => cases k <;> first | rfl | cases h1
          | _ => cases h1
      · unfold stringT at h2
        cases hd : P.underlying D' with
        | none => simp [hd] at h2
        | some d2 => rw [hd] at h2; cases d2 <;> first | rfl | cases h2
    | _ => simp at h
theorem r_strOf {A B : TypeId} {x : Operand} {s : List UInt8} (ho : o.op = .convert A B x) (hd : o.dst = some d) (hT : byteRow P A B = true) (hx : opd l x = some (.c (.sl 1 (bcells s)))) : Does P o (rdOf x) [] l [(d, .c (.lit (str s)))] :=
  Does.val hd trivial fun S ρ tv a w hv => by
    obtain ⟨A', c, h1, hc, hne, hr, hcells⟩ := DIn.row (hv.fv hx (fun _ h => h) (by intro T xs e; cases e))
    obtain ⟨e, hs, he, hd'⟩ := byteRow_some hT
    rw [bcells_len] at h1
    have hcell : ∀ j (hj : j < s.length), ∃ ad, A' = some ad ∧ w.cell? (ad.add j) = some (.int .u8 (s[j].toNat : Int)) := by
      intro j hj
      obtain ⟨ad, u, g1, _, g3, g4⟩ := hcells j 0 _ (bcells_at s j hj)
      cases g4
      exact ⟨ad, g1, by simpa using g3⟩
    refine ⟨str s, ?_, .lit _ rfl⟩
    simp only [execOp, ho, h1, Sem.run_bind]
    rw [run_convert_bytes_string w A B e _ _ c hs he hd']
    cases A' with
    | none =>
      have : s = [] := by
        cases s with
        | nil => rfl
        | cons x r =>
          obtain ⟨ad, hA, _⟩ := hcell 0 (by simp)
          cases hA
      subst this
      simp [Conv.bytesToString]
      rfl
    | some ad =>
      have hl : (loadCells ad s.length).run P w = .ok ((s.map (fun x => (x.toNat : Int))).map (Value.int .u8)).toArray w := by
        have := run_loadCells_list (P := P) w ad ((s.map (fun x => (x.toNat : Int))).map (Value.int .u8)) (fun j v hj => by
          rw [List.getElem?_map, List.getElem?_map] at hj
          have hjl : j < s.length := by
            rcases Nat.lt_or_ge j s.length with h1 | h1
            · exact h1
            · rw [List.getElem?_eq_none h1] at hj; simp at hj
          rw [List.getElem?_eq_getElem hjl] at hj
          obtain ⟨ad', hA, hc⟩ := hcell j hjl
          cases hA
          simpa [hc] using hj)
        simpa using this
      rw [run_bytesToString w _ _ c _ hl, bytes_fold]
      rfl
end

end Go.Proofs.YtlagglkpbnbmeaaGreatDoor

/- Splits within a region, loops with a part that stays. -/
namespace Go.Proofs.YtlagglkpbnbmeaaGreatDoor
open Go Go.RowKit
set_option linter.unusedVariables false

section
variable {P : Program} {n : Nat} {ins : List Nat} {l : List (Nat × F)} {K : Cont}
theorem JR.runB {l0 : List (Nat × F)} {id : Nat} {ops : Array Oper} {draw : Bool} {i : Nat} {acc : List Stp} {d : Nat} {b : Bool} {rd : List Nat} {fr : List (Nat × List Nat)} {o : Oper} (ho : ops[i]? = some o) (hw : wantB ops l o = some true) (hd : Does P o rd fr l [(d, .c (.lit (.bool b)))])
    (hT : b = true → JR P n ins l0 id ops draw K (i + 1) ((d, .c (.lit (.bool true))) :: l) (⟨gk ops o ++ rd, fr, [(d, .c (.lit (.bool true)))]⟩ :: acc))
    (hF : b = false → JR P n ins l0 id ops draw K (i + 1) ((d, .c (.lit (.bool false))) :: l) (⟨gk ops o ++ rd, fr, [(d, .c (.lit (.bool false)))]⟩ :: acc)) : JR P n ins l0 id ops draw K i l acc := by
  cases b with
  | true => exact JR.run ho hw hd (hT rfl)
  | false => exact JR.run ho hw hd (hF rfl)
theorem JR.runC {l0 : List (Nat × F)} {id : Nat} {ops : Array Oper} {draw : Bool} {i : Nat} {acc : List Stp} {d : Nat} {b : Bool} {rd : List Nat} {fr : List (Nat × List Nat)} {post : List (Nat × F)} {o : Oper} (ho : ops[i]? = some o) (hw : wantB ops l o = some true) (hd : Does P o rd fr l post) (hp : post = [(d, .c (.lit (.bool b)))])
    (hT : b = true → JR P n ins l0 id ops draw K (i + 1) ((d, .c (.lit (.bool true))) :: l) (⟨gk ops o ++ rd, fr, [(d, .c (.lit (.bool true)))]⟩ :: acc))
    (hF : b = false → JR P n ins l0 id ops draw K (i + 1) ((d, .c (.lit (.bool false))) :: l) (⟨gk ops o ++ rd, fr, [(d, .c (.lit (.bool false)))]⟩ :: acc)) : JR P n ins l0 id ops draw K i l acc := by
  subst hp
  exact JR.runB ho hw hd hT hF
theorem J_loopF {α : Type} (I : α → List (Nat × F)) (fix : List (Nat × F)) (μ : α → Nat) (x : α) {c : Code} (h0 : sub (I x ++ fix) l) (h : ∀ x, J P n ins (I x ++ fix) c (loopK (fun x => I x ++ fix) μ x K)) : J P n ins l (.loop c) K :=
  J_loop (fun x => I x ++ fix) μ x h0 h
end
theorem nT {b : Bool} (h : (!b) = true) : b = false := by cases b <;> first | rfl | cases h
theorem nF {b : Bool} (h : (!b) = false) : b = true := by cases b <;> first | rfl | cases h
theorem WkF.of {x y : F} (h : x = y) : WkF x y := by subst h; exact .refl x
theorem WkF.ofB {a b : Bool} (h : b = a) : WkF (.c (.lit (.bool a))) (.c (.lit (.bool b))) := .of (by rw [h])
theorem WkF.ofI {k : IntKind} {a b : Int} (h : b = a) : WkF (.c (.lit (.int k a))) (.c (.lit (.int k b))) := .of (by rw [h])
theorem WkF.ofS {a b : List UInt8} (h : b = a) : WkF (.c (.lit (str a))) (.c (.lit (str b))) := .of (by rw [h])

end Go.Proofs.YtlagglkpbnbmeaaGreatDoor

/- Strings and rows of bytes: []byte(s), of a constant and of any; equality of bools; nil as a row of one's own. -/
namespace Go.Proofs.YtlagglkpbnbmeaaGreatDoor
open Go Go.RowKit
set_option linter.unusedVariables false

section
variable {P : Program} {o : Oper} {l : List (Nat × F)} {d : Nat}
theorem freeze_eq (w : World) (a : Addr) : (w.freeze a 1).os = w.os ∧ (w.freeze a 1).tape = w.tape ∧ (w.freeze a 1).output = w.output ∧ (w.freeze a 1).heap.size = w.heap.size ∧ (∀ k, k ≠ a.block → (w.freeze a 1).heap[k]? = w.heap[k]?) ∧ ∀ p, (w.freeze a 1).cell? p = w.cell? p := by
  unfold World.freeze
  rw [if_neg (by decide)]
  refine ⟨rfl, rfl, rfl, by simp, fun k hk => ?_, fun p => ?_⟩
  · simp only [Array.getElem?_modify, if_neg (Ne.symm hk)]
  · unfold World.cell?
    simp only [Array.getElem?_modify]
    by_cases h : a.block = p.block
    · rw [if_pos h]
      cases hp : w.heap[p.block]? with
      | none => rfl
      | some ob =>
        cases ob <;> rfl
    · rw [if_neg h]
def u8Row (P : Program) (T : TypeId) : Bool :=
  match P.underlying T with
  | some (.slice e) => (match P.underlying e with | some (.int .u8) => true | _ => false)
  | _ => false
theorem u8Row_some {T : TypeId} (h : u8Row P T = true) : ∃ e, P.underlying T = some (.slice e) ∧ P.underlying e = some (.int .u8) := by
  unfold u8Row at h
  split at h
  · rename_i e he
    split at h
    · rename_i h2
      exact ⟨e, he, h2⟩
    · cases h
  · cases h
theorem r_convConst {T e : TypeId} {t : Nat} {sz : Nat} {els : List (List D)} (ho : o.op = .convert T T (.tmp t)) (hd : o.dst = some d) (hT : u8Row P T = true) (ht : opd l (.tmp t) = some (.own e sz els)) (hne : Nat.blt 0 els.length = true) :
    Does P o [t] [] l [(d, .c (.sl sz els)), (t, .non)] := by
  intro en σ a w next Q hnn hdn hσ _ hR hnext
  obtain ⟨hdf, hsz, hfr, ρ, tv, htv, hin, hvz, hrr⟩ := hR
  obtain ⟨el, hu, he⟩ := u8Row_some hT
  have hb0 : Nat.blt t 1000 = true := by
    simp only [opd] at ht
    cases hb : Nat.blt t 1000 with
    | false => rw [hb] at ht; cases ht
    | true => rfl
  have htl : t < 1000 := Nat.le_of_ble_eq_true hb0
  have hσt : σ t = some (.own e sz els) := by
    rw [hσ t (by simp)]
    simp only [opd] at ht
    rw [hb0] at ht; exact ht
  have hlen : 0 < els.length := Nat.le_of_ble_eq_true hne
  have hdlt : d < 1000 := Nat.lt_of_lt_of_le (hdn d hd) hnn
  have hdn' := hdn d hd
  obtain ⟨us, hown, hr, hl⟩ := hrr.rel t _ hσt
  have hev : a.eval (.tmp t) = tv t := (htv t htl).symm
  rcases hown.2 with ⟨_, h2⟩ | ⟨g, cap, cur, h1, _, h3, h4, h5, _⟩
  · omega
  have hex : ex ρ tv t (.own e sz els) = some g := by show (tv t).ownBlock = _; rw [h1]; rfl
  have hgb := hrr.exb t _ g hσt hex
  obtain ⟨w', hw', f1, f2, f3, f4, f5, f6⟩ : ∃ w', (execOp a.eval o).run P w = .ok (.value (tv t)) w' ∧ w'.os = w.os ∧ w'.tape = w.tape ∧ w'.output = w.output ∧ w'.heap.size = w.heap.size ∧ (∀ k, k ≠ g → w'.heap[k]? = w.heap[k]?) ∧ ∀ p, w'.cell? p = w.cell? p := by
    have hsh : w.shape? g = some (e, cur.size) := by unfold World.shape?; rw [h3]
    refine ⟨w.freeze ⟨g, cur.size, none⟩ 1, ?_, freeze_eq w ⟨g, cur.size, none⟩⟩
    unfold execOp
    rw [ho]
    simp only [hev, h1]
    simp [convert, run_underlying hu, run_underlying he, markStringish, hsh]
  have hnew : ∀ k f b, upd σ [(d, .c (.sl sz els)), (t, .non)] k = some f → ex ρ (setv tv d (tv t)) k f = some b → σ k = some f ∧ ex ρ tv k f = some b ∧ k ≠ t ∧ k ≠ d := by
    intro k f b hk hb
    unfold upd at hk
    simp only [find_cons] at hk
    by_cases q1 : d = k
    · rw [if_pos q1] at hk; cases hk; cases hb
    · rw [if_neg q1] at hk
      by_cases q2 : t = k
      · rw [if_pos q2] at hk; cases hk; cases hb
      · rw [if_neg q2] at hk
        refine ⟨hk, ?_, fun q => q2 q.symm, fun q => q1 q.symm⟩
        cases f <;> simp only [ex, setv_other _ _ _ (fun q : k = d => q1 q.symm)] at hb ⊢ <;> exact hb
  have hvol : ∀ p, vol (upd σ [(d, .c (.sl sz els)), (t, .non)]) ρ (setv tv d (tv t)) p → vol σ ρ tv p := fun p ⟨k, f, q1, q2, q3⟩ => ⟨k, f, (hnew k f _ q1 q2).1, (hnew k f _ q1 q2).2.1, q3⟩
  have hcold : ∀ p, cold en.V σ ρ tv w p → cold en.V (upd σ [(d, .c (.sl sz els)), (t, .non)]) ρ (setv tv d (tv t)) w' p := fun p hp => ⟨by rw [f4]; exact hp.1, hp.2.1, fun h => hp.2.2 (hvol p h)⟩
  have hrr' : RR en.V ρ (setv tv d (tv t)) w' (upd σ [(d, .c (.sl sz els)), (t, .non)]) := by
    refine hrr.to (by rw [f4]; exact Nat.le_refl _) (fun p hp => ⟨(hcold p hp).2.2, f6 p⟩) (fun k f hk => ?_) (fun k f k' f' b q1 q2 q3 q4 => hrr.dist _ _ _ _ _ (hnew _ _ _ q1 q3).1 (hnew _ _ _ q2 q4).1 (hnew _ _ _ q1 q3).2.1 (hnew _ _ _ q2 q4).2.1)
      (fun k f b q1 q2 => ⟨by rw [f4]; exact (hrr.exb _ _ _ (hnew _ _ _ q1 q2).1 (hnew _ _ _ q1 q2).2.1).1, (hrr.exb _ _ _ (hnew _ _ _ q1 q2).1 (hnew _ _ _ q1 q2).2.1).2⟩)
    have hk0 := hk
    unfold upd at hk
    simp only [find_cons] at hk
    by_cases q1 : d = k
    · rw [if_pos q1] at hk
      cases hk
      refine .inr ?_
      show DIn _ _ _ _
      rw [← q1, setv_same]
      have hcells := hown.cells (g := g) (by rw [h1]; rfl)
      suffices hD : DIn (cold en.V (upd σ [(d, .c (.sl sz els)), (t, .non)]) ρ (setv tv d (tv t)) w') w' (.sl sz els) (.slice (some ⟨g, 0, none⟩) els.length cap) by
        rw [← h1] at hD
        exact hD
      refine DIn.rows h4 hr (hl.mono hcold (fun p _ => f6 p)) (fun j u hj => ?_)
      refine ⟨⟨?_, ?_, ?_⟩, (f6 _).trans (hcells j u hj)⟩
      · rw [block_of_add, f4]; exact hgb.1
      · exact hgb.2 _ (by rw [block_of_add])
      · rintro ⟨k', g', p1, p2, p3⟩
        rw [block_of_add] at p2
        obtain ⟨p4, p5, p6, _⟩ := hnew k' g' _ p1 p2
        exact p6 (hrr.dist _ _ _ _ _ p4 hσt p5 hex)
    · rw [if_neg q1] at hk
      by_cases q2 : t = k
      · rw [if_pos q2] at hk
        cases hk
        exact .inr trivial
      · rw [if_neg q2] at hk
        refine .inl ⟨hk, hrr.same hk (setv_other _ _ _ (fun q => q1 q.symm)) (fun i hi => setv_other _ _ _ (by omega)) (fun _ _ _ => rfl) (fun _ _ _ => rfl) (fun b hb => f5 b fun q => ?_)⟩
        subst q
        exact q2 (hrr.dist _ _ _ _ _ hk hσt hb hex).symm
  unfold wq
  rw [hw', uq_value, hd]
  refine hnext _ _ ⟨by rw [put_defers]; exact hdf, by rw [put_size]; exact hsz, ⟨f1.trans hfr.os, f2.trans hfr.tape, f3.trans hfr.output, by rw [f4]; exact hfr.size, fun p hp hn => (f6 p).trans (hfr.cell p hp hn), fun k hk hn => ?_⟩, ρ, setv tv d (tv t), fun t' ht' => ?_, hin, fun p hp => hvz p (hvol p hp), hrr'⟩
  · refine (f5 k fun q => ?_).trans (hfr.block k hk hn)
    subst q
    rcases hvz ⟨k, els.length * sz, none⟩ ⟨t, _, hσt, hex, Nat.le_refl _⟩ with q | q
    · exact hn _ rfl q
    · have : en.w0.heap.size ≤ k := q
      omega
  · rw [put_getD _ _ _ (by rw [hsz]; exact hdn'), setv, htv t' ht']
theorem r_strOwn {A B T : TypeId} {x : Operand} {s : List UInt8} (ho : o.op = .convert A B x) (hd : o.dst = some d) (hT : byteRow P A B = true) (hx : opd l x = some (.own T 1 (bcells s))) : Does P o (rdOf x) [] l [(d, .c (.lit (str s)))] :=
  Does.val hd trivial fun S ρ tv a w hv => by
    obtain ⟨us, hown, _, hl0⟩ := hv.fv hx (fun _ h => h) (by intro T xs e; cases e)
    obtain ⟨e, hs, he, hd'⟩ := byteRow_some hT
    obtain ⟨A', c, h1, hcell⟩ : ∃ A' c, a.eval x = .slice A' s.length c ∧ ∀ j (hj : j < s.length), ∃ ad, A' = some ad ∧ w.cell? (ad.add j) = some (.int .u8 (s[j].toNat : Int)) := by
      rcases hown.2 with ⟨h2, h3⟩ | ⟨g, cap, cur, h2, _⟩
      · rw [bcells_len] at h3
        exact ⟨none, 0, by rw [h2, h3], fun j hj => by omega⟩
      · refine ⟨_, _, by rw [h2, bcells_len], fun j hj => ⟨_, rfl, ?_⟩⟩
        have hcs := hown.cells (g := g) (by rw [h2]; rfl)
        rw [bcells_flat] at hl0
        obtain ⟨u, g1, g2⟩ := hl0.get j (.lit (.int .u8 (s[j].toNat : Int))) (by simp [hj])
        cases g2
        exact hcs j _ g1
    refine ⟨str s, ?_, .lit _ rfl⟩
    simp only [execOp, ho, h1, Sem.run_bind]
    rw [run_convert_bytes_string w A B e _ _ c hs he hd']
    cases A' with
    | none =>
      have : s = [] := by
        cases s with
        | nil => rfl
        | cons x r =>
          obtain ⟨ad, hA, _⟩ := hcell 0 (by simp)
          cases hA
      subst this
      simp [Conv.bytesToString]
      rfl
    | some ad =>
      have hl : (loadCells ad s.length).run P w = .ok ((s.map (fun x => (x.toNat : Int))).map (Value.int .u8)).toArray w := by
        have := run_loadCells_list (P := P) w ad ((s.map (fun x => (x.toNat : Int))).map (Value.int .u8)) (fun j v hj => by
          rw [List.getElem?_map, List.getElem?_map] at hj
          have hjl : j < s.length := by
            rcases Nat.lt_or_ge j s.length with h1 | h1
            · exact h1
            · rw [List.getElem?_eq_none h1] at hj; simp at hj
          rw [List.getElem?_eq_getElem hjl] at hj
          obtain ⟨ad', hA, hc⟩ := hcell j hjl
          cases hA
          simpa [hc] using hj)
        simpa using this
      rw [run_bytesToString w _ _ c _ hl, bytes_fold]
      rfl
theorem con_nil0 {f : FuncId} {T : TypeId} {sz : Nat} {fs : List F} {vs vs' : List (Nat × F)} {r : F} (h : Con P f (.own T sz [] :: fs) vs r vs') : Con P f (.c (.lit (.slice none 0 0)) :: fs) vs r vs' := by
  intro V ρ tv w args B hsz htv hrr htt hBv hBw
  have hv : tv 0 = .slice none 0 0 := lit_val (ρ := ρ) (hrr.rel 0 _ rfl)
  have hs : setv tv 0 (tv 0) = tv := by funext k; unfold setv; by_cases h : k = 0 <;> simp [h]
  obtain ⟨h1, _⟩ := hrr.own (t := 0) (d := 0) (w' := w) (T := T) (sz := sz) (els := []) (v := tv 0) (us := []) (.inl (by omega)) (fun _ => False) (fun p h => h.elim) (Nat.le_refl _) (fun _ _ _ => rfl) (fun _ _ _ => rfl) (by rw [hv]; exact World.ownsRow_nil _ _ _ _) (fun _ h => by simp at h) trivial (fun p hp => by rw [hv] at hp; simp [Value.ownBlock] at hp) (fun b hp => by rw [hv] at hp; simp [Value.ownBlock] at hp)
  have hst : upd (find (ini (.c (.lit (.slice none 0 0)) :: fs) vs)) [(0, .own T sz []), (0, .non)] = find (ini (.own T sz [] :: fs) vs) := by
    funext k
    unfold upd ini nums
    simp only [List.cons_append, find_cons]
    by_cases hk : 0 = k
    · simp [hk]
    · simp [hk, find]
  rw [hs, hst] at h1
  have hvol : ∀ p, vol (find (ini (.own T sz [] :: fs) vs)) ρ tv p → vol (find (ini (.c (.lit (.slice none 0 0)) :: fs) vs)) ρ tv p := by
    rintro p ⟨k, f', q1, q2, q3⟩
    unfold ini nums at q1
    rw [List.cons_append, find_cons] at q1
    by_cases hk : 0 = k
    · rw [if_pos hk] at q1
      cases q1
      rw [← hk] at q2
      simp only [ex, hv, Value.ownBlock] at q2
      cases q2
    · rw [if_neg hk] at q1
      refine ⟨k, f', ?_, q2, q3⟩
      unfold ini nums
      rw [List.cons_append, find_cons, if_neg hk]
      exact q1
  refine (h V ρ tv w args B (by simpa using hsz) htv h1 htt (fun p hp => hBv p (hvol p hp)) hBw).mono ?_
  rintro e w' ⟨v, tv', h3, h4, h5, h6, h7⟩
  exact ⟨v, tv', h3, h4, ⟨h5.os, h5.tape, h5.output, h5.size, fun p hp hn => h5.cell p hp (fun q => hn (hvol p q)), fun k hk hn => h5.block k hk (fun p hp q => hn p hp (hvol p q))⟩, h6, fun p hp => (h7 p hp).imp_left (hvol p)⟩
end

end Go.Proofs.YtlagglkpbnbmeaaGreatDoor

/- Integers turned and divided, a row's first elements, an empty row. -/
namespace Go.Proofs.YtlagglkpbnbmeaaGreatDoor
open Go Go.RowKit
set_option linter.unusedVariables false

section
variable {P : Program} {o : Oper} {l : List (Nat × F)} {d : Nat}
theorem cast_b {d : Nat} {b b' : Bool} (h : b = b') : [(d, F.c (.lit (.bool b)))] = [(d, F.c (.lit (.bool b')))] := by rw [h]
theorem cast_i {d : Nat} {k : IntKind} {i j : Int} (h : i = j) : [(d, F.c (.lit (.int k i)))] = [(d, F.c (.lit (.int k j)))] := by rw [h]
theorem r_sliceTo {T e : TypeId} {sz : Nat} {x y : Operand} {els : List (List D)} {k : Nat} (ho : o.op = .slice T x none (some y) none) (hd : o.dst = some d) (hT : elemOf? P T = some (e, sz)) (hx : opd l x = some (.c (.sl sz els))) (hy : opd l y = some (.c (.lit (.int .i64 (k : Int))))) (hk : k ≤ els.length) :
    Does P o (rdOf x ++ rdOf y) [] l [(d, .c (.sl sz (els.take k)))] :=
  Does.val hd trivial fun S ρ tv a w hv => by
    have e1 := lit_val (hv.fv hy (fun _ h => List.mem_append_right _ h) (by intro T xs e; cases e))
    obtain ⟨A, c, h1, hc, hne, hr, hcells⟩ := DIn.row (hv.fv hx (fun _ h => List.mem_append_left _ h) (by intro T xs e; cases e))
    obtain ⟨hu, hs⟩ := elemOf?_some hT
    have hel : P.elem T = e := by unfold Program.elem; rw [hu]
    have hl : (els.take k).length = k := by rw [List.length_take]; omega
    refine ⟨.slice (if c = 0 then A else A.map (·.add (0 * sz))) k (c - 0), ?_, ?_⟩
    · simp only [execOp, ho, h1, e1, Option.map_none, Option.map_some]
      have hz : (sizeOf (P.elem T)).run P w = .ok sz w := by
        rw [hel]
        unfold sizeT at hs
        cases hi : P.info? e with
        | none => rw [hi] at hs; cases hs
        | some i => rw [hi] at hs; simp only [Option.map_some, Option.some.injEq] at hs; simp [sizeOf, typeInfo, hi, hs]
      have hrun := run_slice_h (P := P) w T A els.length c (by rw [hel]; exact hu) .i64 (k : Int) (by omega) (by omega)
      rw [hz, Result.andThen_ok] at hrun
      rw [Sem.run_bind, run_sliceAt_slice (P := P) w T _ _ _ _ (by rw [hel]; exact hu), hrun]
      rfl
    · show DIn S w (.sl sz (els.take k)) _
      have hA : (if c = 0 then A else A.map (·.add (0 * sz))) = A := by
        split
        · rfl
        · cases A with
          | none => rfl
          | some ad => simp [Addr.add]
      rw [hA, Nat.sub_zero]
      refine .ofRow hl.symm (by omega) (fun h0 => hne (by omega)) (fun r hr' => hr r (List.mem_of_mem_take hr')) (fun i j dd hij => ?_)
      unfold D.at at hij
      rw [List.getElem?_take] at hij
      split at hij
      · exact hcells i j dd hij
      · cases hij
end

end Go.Proofs.YtlagglkpbnbmeaaGreatDoor

/- Maps whose values are integers: made, asked, filled. -/
namespace Go.Proofs.YtlagglkpbnbmeaaGreatDoor
open Go Go.RowKit
set_option linter.unusedVariables false

def sval (es : List (Value × Int)) : List Value := es.flatMap fun p => [p.1, .int .i64 p.2]
theorem sval_cons (p : Value × Int) (es : List (Value × Int)) : sval (p :: es) = p.1 :: .int .i64 p.2 :: sval es := rfl
def mapW (es : List (Value × Int)) : Value := .iface 0 (.agg (sval es).toArray)
def vmap (es : List (Value × Int)) : List C := [.d (.lit (mapW es))]
theorem vmap_in {S : Addr → Prop} {w : World} {tv : Nat → Value} {es : List (Value × Int)} : ∀ {vs : List Value}, CIn S w tv (vmap es) vs → vs = [mapW es]
  | [], h => h.elim
  | [v], h => by
    have h1 : v = mapW es := by have := h.1; cases this; rfl
    rw [h1]
  | _ :: _ :: _, h => h.2.elim
theorem vmap_of {S : Addr → Prop} {w : World} {tv : Nat → Value} (es : List (Value × Int)) : CIn S w tv (vmap es) [mapW es] := ⟨.lit _ rfl, trivial⟩
def entsOf : List (Value × Int) → Nat → List MapEntry
  | [], _ => []
  | p :: es, i => ⟨p.1, .int .i64 p.2, i⟩ :: entsOf es (i + 1)
theorem mapEs_sval : ∀ (es : List (Value × Int)) (i : Nat), mapEs (sval es) i = entsOf es i
  | [], _ => rfl
  | p :: es, i => by rw [sval_cons, mapEs, mapEs_sval es]; rfl
theorem entsOf_push : ∀ (es : List (Value × Int)) (p : Value × Int) (i : Nat), entsOf (es ++ [p]) i = entsOf es i ++ [⟨p.1, .int .i64 p.2, i + es.length⟩]
  | [], p, i => rfl
  | q :: es, p, i => by rw [List.cons_append, entsOf, entsOf_push es p]; simp [entsOf]; omega
theorem sval_len (es : List (Value × Int)) : (sval es).length = 2 * es.length := by
  induction es with
  | nil => rfl
  | cons p es ih => rw [sval_cons]; simp [ih]; omega
theorem entsOf_mem : ∀ {es : List (Value × Int)} {i : Nat} {x : MapEntry}, x ∈ entsOf es i → ∃ p, p ∈ es ∧ x.key = p.1 ∧ x.val = .int .i64 p.2
  | [], _, _, h => by simp [entsOf] at h
  | p :: es, i, x, h => by
    rcases List.mem_cons.1 h with rfl | h
    · exact ⟨p, by simp, rfl, rfl⟩
    · obtain ⟨q, h1, h2⟩ := entsOf_mem h
      exact ⟨q, by simp [h1], h2⟩
theorem mem_entsOf : ∀ {es : List (Value × Int)} {i : Nat} {p : Value × Int}, p ∈ es → ∃ x, x ∈ entsOf es i ∧ x.key = p.1
  | [], _, _, h => by simp at h
  | q :: es, i, p, h => by
    rcases List.mem_cons.1 h with rfl | h
    · exact ⟨_, List.mem_cons_self .., rfl⟩
    · obtain ⟨x, h1, h2⟩ := mem_entsOf (i := i + 1) h
      exact ⟨x, List.mem_cons_of_mem _ h1, h2⟩
theorem objV_map (es : List (Value × Int)) : objV mapT [mapW es].toArray = .map (entsOf es 0).toArray es.length := by
  show Obj.map (mapEs (sval es).toArray.toList 0).toArray ((sval es).toArray.size / 2) = _
  rw [List.toList_toArray, mapEs_sval, List.size_toArray, sval_len]
  congr 1
  omega

def mapKI (P : Program) (T : TypeId) : Option TypeDesc := match P.underlying T with
  | some (.map k e) => (match (P.info? e).bind (·.zero) with | some (.int .i64 n) => bif decide (n = 0) then P.underlying k else none | _ => none)
  | _ => none
theorem mapKI_some {P : Program} {T : TypeId} {d : TypeDesc} (h : mapKI P T = some d) : ∃ k e, P.underlying T = some (.map k e) ∧ P.underlying k = some d ∧ ∀ w : World, (zeroValue e).run P w = .ok (.int .i64 0) w := by
  unfold mapKI at h
  split at h
  · rename_i k e hu
    split at h
    · rename_i n hz
      cases hn : decide (n = 0) with
      | false => rw [hn] at h; cases h
      | true =>
        rw [hn, cond_true] at h
        refine ⟨k, e, hu, h, fun w => ?_⟩
        cases hi : P.info? e with
        | none => rw [hi] at hz; cases hz
        | some i =>
          rw [hi, Option.bind_some] at hz
          simp [zeroValue, typeInfo, hi, hz, of_decide_eq_true hn]
    · cases h
  · cases h

section
variable {P : Program} {o : Oper} {l : List (Nat × F)} {d : Nat}
theorem r_makeMap {T : TypeId} {x : Nat} (ho : o.op = .makeMap T none) (hd : o.dst = some d) (hx : Nat.ble 2000 x = true) : Does P o [] [(x, [])] l [(d, .ptr x mapT), (x, .var mapT (vmap []))] :=
  Does.newVar (m := mapT) (T := mapT) (xs := [.lit (mapW [])]) hd (Nat.le_of_ble_eq_true hx) fun S ρ tv a w hv => by
    refine ⟨[mapW []], ?_, .lit _ rfl, trivial⟩
    simp only [execOp, ho, Option.map_none, Instr.makeMap, Sem.run_bind, run_newObj_alloc, Result.andThen_ok, Sem.run_pure]
    rfl
theorem r_lookup {T : TypeId} {x y : Operand} {v : Nat} {dk : TypeDesc} {es : List (Value × Int)} {k : Value} (n : Int) (ho : o.op = .lookup T x y false) (hd : o.dst = some d) (hT : mapKI P T = some dk) (hx : opd l x = some (.ptr v mapT)) (hv : find l v = some (.var mapT (vmap es))) (hy : opd l y = some (.c (.lit k)))
    (hk : MapKept.IsKey dk k) (hks : ∀ p, p ∈ es → MapKept.IsKey dk p.1) (hn : ((∀ p, p ∈ es → p.1 ≠ k) ∧ n = 0) ∨ ((∃ p, p ∈ es ∧ p.1 = k) ∧ ∀ p, p ∈ es → p.1 = k → p.2 = n)) :
    Does P o (rdOf x ++ rdOf y ++ [v]) [] l [(d, .c (.lit (.int .i64 n)))] :=
  Does.val hd trivial fun S ρ tv a w hview => by
    have h1 : a.eval x = .map (some (ρ v)) := hview.fv hx (fun _ h => List.mem_append_left _ (List.mem_append_left _ h)) (by intro T xs e; cases e)
    have h2 : a.eval y = k := lit_val (hview.fv hy (fun _ h => List.mem_append_left _ (List.mem_append_right _ h)) (by intro T xs e; cases e))
    obtain ⟨vs, hb, hc⟩ := hview.vr v _ _ hv (List.mem_append_right _ (by simp))
    rw [vmap_in hc, objV_map] at hb
    obtain ⟨kt, et, hu, hku, hz⟩ := mapKI_some hT
    have hks' : ∀ q, q ∈ entsOf es 0 → MapKept.IsKey dk q.key := fun q hq => by
      obtain ⟨p, hp, hp2, _⟩ := entsOf_mem hq
      rw [hp2]; exact hks p hp
    refine ⟨.int .i64 n, ?_, .lit _ rfl⟩
    rcases MapKept.findNow_spec hk (entsOf es 0) 0 hks' with ⟨h3, h4⟩ | ⟨j, e, h3, h4, h5⟩
    · have hn0 : n = 0 := by
        rcases hn with ⟨_, hn⟩ | ⟨⟨p, hp, hp2⟩, _⟩
        · exact hn
        · obtain ⟨q, hq, hq2⟩ := mem_entsOf (i := 0) hp
          exact absurd (hq2.trans hp2) (h4 q hq)
      simp [execOp, ho, h1, h2, Instr.lookup, run_underlying hu, MapKept.run_getObj_map hb, MapKept.run_checkKey hku hk, MapKept.run_findKey hku h3, hz w, hn0]
    · obtain ⟨p, hp, hp2, hp3⟩ := entsOf_mem (List.mem_of_getElem? h4)
      have hpn : p.2 = n := by
        rcases hn with ⟨hn, _⟩ | ⟨_, hn⟩
        · exact absurd (hp2.symm.trans h5) (hn p hp)
        · exact hn p hp (hp2.symm.trans h5)
      simp [execOp, ho, h1, h2, Instr.lookup, run_underlying hu, MapKept.run_getObj_map hb, MapKept.run_checkKey hku hk, MapKept.run_findKey hku h3, hp3, hpn]
theorem r_mapPush {T : TypeId} {x y z : Operand} {v : Nat} {dk : TypeDesc} {es : List (Value × Int)} {k : Value} {n : Int} (ho : o.op = .mapUpdate T x y z) (hd : o.dst = none) (hT : mapKI P T = some dk) (hx : opd l x = some (.ptr v mapT)) (hv : find l v = some (.var mapT (vmap es))) (hy : opd l y = some (.c (.lit k)))
    (hz : opd l z = some (.c (.lit (.int .i64 n)))) (hk : MapKept.IsKey dk k) (hks : ∀ p, p ∈ es → MapKept.IsKey dk p.1) (hn : ∀ p, p ∈ es → p.1 ≠ k) :
    Does P o (v :: (rdOf x ++ rdOf y ++ rdOf z)) [] l [(v, .var mapT (vmap (es ++ [(k, n)])))] := by
  intro e σ a w next Q hnn hdn hσ _ hR hnext
  obtain ⟨hdf, hsz, hfr, ρ, tv, htv, hin, hvz, hrr⟩ := hR
  have hview := view_of hσ htv hrr
  have h1 : a.eval x = .map (some (ρ v)) := hview.fv hx (fun _ h => List.mem_cons_of_mem _ (List.mem_append_left _ (List.mem_append_left _ h))) (by intro T xs e; cases e)
  have h2 : a.eval y = k := lit_val (hview.fv hy (fun _ h => List.mem_cons_of_mem _ (List.mem_append_left _ (List.mem_append_right _ h))) (by intro T xs e; cases e))
  have h3 : a.eval z = .int .i64 n := lit_val (hview.fv hz (fun _ h => List.mem_cons_of_mem _ (List.mem_append_right _ h)) (by intro T xs e; cases e))
  have hxσ : σ v = some (.var mapT (vmap es)) := by rw [hσ v (by simp)]; exact hv
  obtain ⟨vs, hb, hc⟩ := hrr.rel v _ hxσ
  rw [vmap_in hc, objV_map] at hb
  obtain ⟨kt, et, hu, hku, _⟩ := mapKI_some hT
  have hks' : ∀ q, q ∈ entsOf es 0 → MapKept.IsKey dk q.key := fun q hq => by
    obtain ⟨p, hp, hp2, _⟩ := entsOf_mem hq
    rw [hp2]; exact hks p hp
  have hnew : objV mapT [mapW (es ++ [(k, n)])].toArray = .map ((entsOf es 0).toArray.push ⟨k, .int .i64 n, es.length⟩) (es.length + 1) := by
    rw [objV_map, entsOf_push]
    simp
  have hrun : (execOp a.eval o).run P w = .ok .skip { w with heap := w.heap.setIfInBounds (ρ v) (objV mapT [mapW (es ++ [(k, n)])].toArray) } := by
    rcases MapKept.findNow_spec hk (entsOf es 0) 0 hks' with ⟨h4, _⟩ | ⟨j, e', h4, h5, h6⟩
    · rw [hnew]
      simp [execOp, ho, h1, h2, h3, Instr.mapUpdate, run_underlying hu, MapKept.run_getObj_map hb, MapKept.run_checkKey hku hk, MapKept.run_findKey hku h4, MapKept.run_setObj_map _ hb]
    · obtain ⟨p, hp, hp2, _⟩ := entsOf_mem (List.mem_of_getElem? h5)
      exact absurd (hp2.symm.trans h6) (hn p hp)
  unfold wq
  rw [hrun, uq_skip, hd]
  obtain ⟨g1, g2⟩ := MapKept.heap_set (o' := objV mapT [mapW (es ++ [(k, n)])].toArray) hb
  obtain ⟨q1, q2⟩ := hrr.write (w' := { w with heap := w.heap.setIfInBounds (ρ v) (objV mapT [mapW (es ++ [(k, n)])].toArray) }) (ys := vmap (es ++ [(k, n)])) hxσ (by simp) (fun k' hk' => g2 k' hk') g1 (vmap_of _)
  refine hnext _ _ ⟨hdf, hsz, hfr.write (b := ρ v) ⟨rfl, rfl, rfl⟩ (by simp) (fun k' hk' => g2 k' hk') (fun hlt p hp => ?_), ρ, tv, htv, hin, fun p hp => hvz p (q2 p hp), q1⟩
  rcases hvz p ⟨v, _, hxσ, by rw [hp]; rfl, Nat.zero_le _⟩ with h5 | h5
  · exact h5
  · omega
end

end Go.Proofs.YtlagglkpbnbmeaaGreatDoor

