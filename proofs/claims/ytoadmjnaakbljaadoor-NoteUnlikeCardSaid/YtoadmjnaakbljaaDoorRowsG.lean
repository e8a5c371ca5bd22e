/- Rows of elements of several cells: how they read, and how a row of the call's own grows. -/
import Derived.Test.YtoadmjnaakbljaaDoorBase
import Derived.Deep.RegionLaw
namespace Go.Proofs.YtoadmjnaakbljaaDoor
open Go Go.RowKit

/-- what is known of an element's type -/
structure RowT {α : Type} (P : Program) (S T : TypeId) (sz bytes : Nat) (f : α → List Value) : Prop where
  ht : P.underlying S = some (.slice T)
  info : ∃ i z, P.info? T = some i ∧ i.zero = some z ∧ i.size = sz ∧ i.bytes = bytes ∧ z.cells.size = sz
  pos : 0 < sz
  len : ∀ x, (f x).length = sz
  one : ∀ x, ∀ u ∈ f x, u.oneCell' = true

theorem flat_len {α : Type} {f : α → List Value} {sz : Nat} (h : ∀ x, (f x).length = sz) (xs : List α) : (xs.flatMap f).length = xs.length * sz := by
  induction xs with
  | nil => simp
  | cons x r ih => simp only [List.flatMap_cons, List.length_append, h, ih, List.length_cons]; rw [Nat.add_mul]; omega
theorem flat_get {α : Type} {f : α → List Value} {sz : Nat} (h : ∀ x, (f x).length = sz) (xs : List α) (j k : Nat) (hj : j < xs.length) (hk : k < sz) : (xs.flatMap f)[j * sz + k]? = (f (xs[j]'hj))[k]? := by
  induction xs generalizing j with
  | nil => simp at hj
  | cons x r ih =>
    rw [List.flatMap_cons]
    cases j with
    | zero =>
      rw [List.getElem?_append_left (by rw [h]; omega)]
      simp
    | succ j =>
      have e : (j + 1) * sz + k = sz + (j * sz + k) := by rw [Nat.add_mul]; omega
      rw [List.getElem?_append_right (by rw [h, e]; omega), h, e, Nat.add_sub_cancel_left]
      exact ih j (by simpa using hj)

/-- the slice value at A reads as these elements -/
def RdG {α : Type} (sz : Nat) (f : α → List Value) (w : World) (A : Option Addr) (xs : List α) : Prop :=
  ∀ j (h : j < xs.length), ∃ ad, A = some ad ∧ ad.block < w.heap.size ∧ ∀ k, k < sz → w.cell? (ad.add (j * sz + k)) = (f (xs[j]'h))[k]?
theorem RdG.below {α : Type} {sz : Nat} {f : α → List Value} {w w' : World} {A : Option Addr} {xs : List α} (h : RdG sz f w A xs) (hb : Below w.heap.size w w') : RdG sz f w' A xs := by
  intro j hj
  obtain ⟨ad, hA, hlt, hc⟩ := h j hj
  refine ⟨ad, hA, Nat.lt_of_lt_of_le hlt hb.size, fun k hk => ?_⟩
  rw [hb.cell (by rw [block_of_add]; exact hlt)]
  exact hc k hk
theorem RdG.nil {α : Type} (sz : Nat) (f : α → List Value) (w : World) (A : Option Addr) : RdG sz f w A ([] : List α) := fun j h => absurd h (by simp)

/-- a row of the call's own -/
def OwnG {α : Type} (T : TypeId) (sz : Nat) (f : α → List Value) (w : World) (base : Nat) (A : Option Addr) (c : Nat) (xs : List α) : Prop :=
  w.ownsRow base T sz (.slice A xs.length c) xs.length (xs.flatMap f)
section
variable {α : Type} {T : TypeId} {sz : Nat} {f : α → List Value}
theorem OwnG.nil (w : World) (base : Nat) : OwnG T sz f w base none 0 ([] : List α) := World.ownsRow_nil _ _ _ _
theorem OwnG.keep {w w' : World} {base c : Nat} {A : Option Addr} {xs : List α} (h : OwnG T sz f w base A c xs) (hb : Below w.heap.size w w') : OwnG T sz f w' base A c xs :=
  World.ownsRow.kept (row := none) h ⟨hb.os, hb.tape, hb.output, hb.size, fun k hk _ => hb.block k hk⟩ (by cases hv : (Value.slice A xs.length c).ownBlock <;> simp)
theorem OwnG.alloc {w : World} {base c : Nat} {A : Option Addr} {xs : List α} (h : OwnG T sz f w base A c xs) (o : Obj) : OwnG T sz f (w.alloc o) base A c xs := World.ownsRow.alloc h o
theorem OwnG.drew {w : World} {base c : Nat} {A : Option Addr} {xs : List α} (h : OwnG T sz f w base A c xs) : OwnG T sz f w.drew base A c xs := h
theorem OwnG.at {w : World} {base c : Nat} {A : Option Addr} {xs : List α} (h : OwnG T sz f w base A c xs) : ∀ k, (Value.slice A xs.length c).ownBlock = some k → base ≤ k ∧ k < w.heap.size := fun k hk => World.ownsRow.lt h k hk
theorem OwnG.le {w : World} {base c : Nat} {A : Option Addr} {xs : List α} (h : OwnG T sz f w base A c xs) : xs.length ≤ c := by
  rcases h.2 with ⟨hv, h0⟩ | ⟨g, cap, cur, hv, _, hh, hc, _⟩
  · omega
  · cases hv; exact hc
theorem OwnG.rd {w : World} {base c : Nat} {A : Option Addr} {xs : List α} (h : OwnG T sz f w base A c xs) (hl : ∀ x, (f x).length = sz) : RdG sz f w A xs := by
  intro j hj
  have hat := h.at
  rcases h.2 with ⟨hv, h0⟩ | ⟨g, cap, cur, hv, _, hh, _⟩
  · omega
  · cases hv
    refine ⟨_, rfl, (hat g rfl).2, fun k hk => ?_⟩
    have hg := flat_get hl xs j k hj hk
    have hlen := hl (xs[j]'hj)
    have e : (f (xs[j]'hj))[k]? = some ((f (xs[j]'hj))[k]'(by omega)) := List.getElem?_eq_getElem (by omega)
    rw [e]
    exact World.ownsRow.cells (g := g) h rfl (j * sz + k) _ (by rw [hg, e])
end

/-- a new block reads as these elements -/
theorem newsG {α : Type} {f : α → List Value} (w : World) (xs : List α) (t : TypeId) : ∀ j u, (xs.flatMap f)[j]? = some u → (w.alloc (.cells (xs.flatMap f).toArray t)).cell? ((⟨w.heap.size, 0, none⟩ : Addr).add j) = some u := by
  intro j u hu
  have e : (⟨w.heap.size, 0, none⟩ : Addr).add j = ⟨w.heap.size, j, none⟩ := by unfold Addr.add; split <;> simp_all
  rw [e, cell_of_row _ w.heap.size j _ t (0, 0) (heap_alloc_new w _)]
  simpa using hu

theorem wp_appG {α : Type} {P : Program} {S T : TypeId} {sz bytes : Nat} {f : α → List Value} (R : RowT P S T sz bytes f) {o : Oper} {a : Act} {w : World} {K : Act → World → Prop} {Q : Exit → Act → World → Prop} (s x : Operand)
    (ho : o.op = .call { callee := .builtin .append, args := #[s, x], argTypes := #[S, S] })
    (base : Nat) (A : Option Addr) (c : Nat) (xs : List α) (hs : a.eval s = .slice A xs.length c) (hown : OwnG T sz f w base A c xs)
    (ad : Addr) (m k : Nat) (news : List α) (hx : a.eval x = .slice (some ad) m k) (hm : news.length = m) (hnews : ∀ j u, (news.flatMap f)[j]? = some u → w.cell? (ad.add j) = some u)
    (hlen : xs.length + m ≤ 9223372036854775807) (hbytes : (xs.length + m) * bytes ≤ 140737488355328) (hbase : base ≤ w.heap.size)
    (h : ∀ A' c' w' xs', xs' = xs ++ news → OwnG T sz f w' base A' c' xs' → Below base w w' → w.grownBy w' (Value.slice A xs.length c).ownBlock → K (a.put o.dst (.slice A' xs'.length c')) w') : o.wp P a w K Q := by
  subst hm
  obtain ⟨i0, z, hi, hz0, hz1, hz2, hz3⟩ := R.info
  refine wp_append_own w s x S ho base T i0 z sz bytes R.ht hi hz0 hz1 hz2 hz3 R.pos _ _ _ hs hown ad news.length k (news.flatMap f) hx (flat_len R.len news) hnews ?_ (by unfold maxLen; omega) hbytes hbase ?_
  · intro u hu
    rw [List.mem_flatMap] at hu
    obtain ⟨y, _, hy⟩ := hu
    exact R.one y u hy
  · intro v' w' hown' hg _
    have hB : Below base w w' := (Below.refl _ _).grown hg hbase (fun k hk => (hown.at k hk).1)
    have e : ∃ A' c', v' = .slice A' (xs ++ news).length c' := by
      rcases hown'.2 with ⟨hv, h0⟩ | ⟨g, cap, cur, hv, _⟩
      · exact ⟨none, 0, by rw [hv, List.length_append, h0]⟩
      · exact ⟨_, cap, by rw [hv, List.length_append]⟩
    obtain ⟨A', c', rfl⟩ := e
    refine h A' c' w' _ rfl ?_ hB hg
    unfold OwnG
    rw [List.flatMap_append, List.length_append]
    rw [List.length_append] at hown'
    exact hown'

theorem wpList_appG {α : Type} {P : Program} {S T : TypeId} {sz bytes : Nat} {f : α → List Value} (R : RowT P S T sz bytes f) {ops : Array Oper} {rest : List Oper} {o : Oper} {a : Act} {w : World} {Q : Exit → Act → World → Prop} (hgd : o.guard = none) (s x : Operand)
    (ho : o.op = .call { callee := .builtin .append, args := #[s, x], argTypes := #[S, S] })
    (base : Nat) (A : Option Addr) (c : Nat) (xs : List α) (hs : a.eval s = .slice A xs.length c) (hown : OwnG T sz f w base A c xs)
    (ad : Addr) (m k : Nat) (news : List α) (hx : a.eval x = .slice (some ad) m k) (hm : news.length = m) (hnews : ∀ j u, (news.flatMap f)[j]? = some u → w.cell? (ad.add j) = some u)
    (hlen : xs.length + m ≤ 9223372036854775807) (hbytes : (xs.length + m) * bytes ≤ 140737488355328) (hbase : base ≤ w.heap.size)
    (h : ∀ A' c' w' xs', xs' = xs ++ news → OwnG T sz f w' base A' c' xs' → Below base w w' → w.grownBy w' (Value.slice A xs.length c).ownBlock → wpList P ops Q rest (a.put o.dst (.slice A' xs'.length c')) w') : wpList P ops Q (o :: rest) a w :=
  wpList_plain hgd fun _ hK => wp_appG R s x ho base A c xs hs hown ad m k news hx hm hnews hlen hbytes hbase fun A' c' w' xs' h1 h2 h3 h4 => hK _ _ (h A' c' w' xs' h1 h2 h3 h4)

theorem step_appG {α : Type} {P : Program} {S T : TypeId} {sz bytes : Nat} {f : α → List Value} (R : RowT P S T sz bytes f) {ops : Array Oper} {o : Oper} {a : Act} {w : World} {K : Act → World → Prop} {Q : Exit → Act → World → Prop} {E : Prop} (hgd : o.guard = none) (s x : Operand)
    (ho : o.op = .call { callee := .builtin .append, args := #[s, x], argTypes := #[S, S] })
    (base : Nat) (A : Option Addr) (c : Nat) (xs : List α) (hs : a.eval s = .slice A xs.length c) (hown : OwnG T sz f w base A c xs)
    (ad : Addr) (m k : Nat) (news : List α) (hx : a.eval x = .slice (some ad) m k) (hm : news.length = m) (hnews : ∀ j u, (news.flatMap f)[j]? = some u → w.cell? (ad.add j) = some u)
    (hlen : xs.length + m ≤ 9223372036854775807) (hbytes : (xs.length + m) * bytes ≤ 140737488355328) (hbase : base ≤ w.heap.size)
    (h : ∀ A' c' w' xs', xs' = xs ++ news → OwnG T sz f w' base A' c' xs' → Below base w w' → w.grownBy w' (Value.slice A xs.length c).ownBlock → K (a.put o.dst (.slice A' xs'.length c')) w') :
    if Region.wanted o (yielded ops a.tmps) = true then Oper.wp P o a w K Q else E := by
  have hw : Region.wanted o (yielded ops a.tmps) = true := by simp [Region.wanted, hgd]
  rw [if_pos hw]
  exact wp_appG R s x ho base A c xs hs hown ad m k news hx hm hnews hlen hbytes hbase h

end Go.Proofs.YtoadmjnaakbljaaDoor
