/- Arguments opened, whatever their type of numbers, truths, strings, structs and slices is: what their cells hold. -/
import Derived.Test.YtccdnmjijakofaaGreatDoorByO
namespace Go.Proofs.YtccdnmjijakofaaGreatDoor
open Go Go.RowKit Go.ChangeShapes Go.WideShapes Go.Deep

/-- what a cell of this type may hold -/
inductive DC (P : Program) (lv : TypeId → List TypeId) : TypeId → D → Prop
  | int (T : TypeId) (k : IntKind) (n : Int) : P.underlying T = some (.int k) → (Lit.int k n).wf = true → DC P lv T (.lit (.int k n))
  | bool (T : TypeId) (b : Bool) : P.underlying T = some .bool → DC P lv T (.lit (.bool b))
  | string (T : TypeId) (s : List UInt8) : P.underlying T = some .string → s.length ≤ 9223372036854775807 → DC P lv T (.lit (str s))
  | slice (T e : TypeId) (rows : List (List D)) : P.underlying T = some (.slice e) → rows.length ≤ 9223372036854775807 → (∀ r, r ∈ rows → r.length = (lv e).length) →
      (∀ r, r ∈ rows → ∀ (j : Nat) (d : D) (L : TypeId), r[j]? = some d → (lv e)[j]? = some L → DC P lv L d) → DC P lv T (.sl (lv e).length rows)
/-- lv tells a type's cells -/
def Lvs (P : Program) (lv : TypeId → List TypeId) (G : TypeId → Prop) : Prop := ∀ T, G T →
  ((∃ k, P.underlying T = some (.int k)) ∧ lv T = [T]) ∨ (P.underlying T = some .bool ∧ lv T = [T]) ∨ (P.underlying T = some .string ∧ lv T = [T]) ∨
  (∃ e, P.underlying T = some (.slice e) ∧ lv T = [T] ∧ G e ∧ (lv e).length = P.cellsOf e) ∨
  (∃ fs : Array Field, P.underlying T = some (.struct fs) ∧ (lv T).length = P.cellsOf T ∧ ∀ (j : Nat) (L : TypeId), (lv T)[j]? = some L → ∃ (i : Nat) (f : Field), fs[i]? = some f ∧ f.offset ≤ j ∧ j < f.offset + P.cellsOf f.type ∧ G f.type ∧ (lv f.type)[j - f.offset]? = some L)
theorem list_of {α : Type} {Q : Nat → α → Prop} : ∀ {m : Nat}, (∀ j, j < m → ∃ d, Q j d) → ∃ l : List α, l.length = m ∧ ∀ (j : Nat) (d : α), l[j]? = some d → Q j d
  | 0, _ => ⟨[], rfl, fun j d h => by simp at h⟩
  | m + 1, h => by
    obtain ⟨l, hl, hq⟩ := list_of (m := m) (fun j hj => h j (by omega))
    obtain ⟨d, hd⟩ := h m (by omega)
    refine ⟨l ++ [d], by simp [hl], fun j x hx => ?_⟩
    by_cases hj : j < l.length
    · rw [List.getElem?_append_left hj] at hx
      exact hq j x hx
    · rw [List.getElem?_append_right (by omega)] at hx
      have : j - l.length = 0 := by
        rcases Nat.lt_or_ge (j - l.length) 1 with h1 | h1
        · omega
        · rw [List.getElem?_eq_none (by simp; omega)] at hx; cases hx
      rw [this] at hx
      simp at hx
      subst hx
      have : j = m := by omega
      subst this
      exact hd
section
variable {P : Program} {lv : TypeId → List TypeId} {G : TypeId → Prop} {H : Type} {enc : TypeId × Value → H} {w : World} {base : Nat} {spare : Nat → Bool} {held : Bool}
theorem trod_dc (hg : Lvs P lv G) : ∀ (n : Nat) (fuel : Nat) (T : TypeId) (cs : List Value) (x : DataW H × List MemPlace), fuel ≤ n → G T → DataW.trod enc P w base spare held fuel T cs = some x →
    cs.length = (lv T).length ∧ ∀ (j : Nat) (c : Value) (L : TypeId), cs[j]? = some c → (lv T)[j]? = some L → ∃ d, DC P lv L d ∧ DIn (fun p => p.block < w.heap.size) w d c
  | 0, fuel, T, cs, x, hn, _, h => by
    obtain rfl : fuel = 0 := by omega
    simp [DataW.trod] at h
  | n + 1, fuel, T, cs, x, hn, hG, h => by
    rcases hg T hG with ⟨⟨k, hu⟩, hl⟩ | ⟨hu, hl⟩ | ⟨hu, hl⟩ | ⟨e, hu, hl, hGe, hle⟩ | ⟨fs, hu, hl, hf⟩
    · obtain ⟨m, rfl, _, hw⟩ := DataW.trod_int hu h
      rw [hl]
      refine ⟨rfl, fun j c L hc hL => ?_⟩
      cases j with
      | zero => simp at hc hL; subst hc; subst hL; exact ⟨_, .int _ k m hu hw, .lit _ rfl⟩
      | succ j => simp at hc
    · obtain ⟨b, rfl, _⟩ := DataW.trod_bool hu h
      rw [hl]
      refine ⟨rfl, fun j c L hc hL => ?_⟩
      cases j with
      | zero => simp at hc hL; subst hc; subst hL; exact ⟨_, .bool _ b hu, .lit _ rfl⟩
      | succ j => simp at hc
    · obtain ⟨s, rfl, _, hs⟩ := DataW.trod_string hu h
      obtain ⟨s', rfl⟩ : ∃ s' : List UInt8, s = ⟨s'.toArray⟩ := ⟨s.data.toList, by simp⟩
      have hs' : s'.length ≤ 9223372036854775807 := by simpa [ByteArray.size, maxLen] using hs
      rw [hl]
      refine ⟨rfl, fun j c L hc hL => ?_⟩
      cases j with
      | zero => simp at hc hL; subst hc; subst hL; exact ⟨_, .string _ s' hu hs', .lit _ rfl⟩
      | succ j => simp at hc
    · rw [hl]
      rcases DataW.trod_slice hu h with ⟨e0, _⟩ | ⟨a, len, cap, elems, rest, m', rfl, e0, _, _, hlc, hcm, hel, hels, _⟩
      · subst e0
        refine ⟨rfl, fun j c L hc hL => ?_⟩
        cases j with
        | zero => simp at hc hL; subst hc; subst hL; exact ⟨_, .slice _ e [] hu (Nat.zero_le _) (by simp) (by simp), .nil none 0⟩
        | succ j => simp at hc
      · subst e0
        refine ⟨rfl, fun j c L hc hL => ?_⟩
        cases j with
        | succ j => simp at hc
        | zero =>
          simp at hc hL
          subst hc; subst hL
          have hrow : ∀ i, i < len → ∃ r : List D, r.length = (lv e).length ∧ ∀ (j : Nat) (d : D), r[j]? = some d → ∃ L c, (lv e)[j]? = some L ∧ DC P lv L d ∧ w.cell? (a.add (i * (lv e).length + j)) = some c ∧ DIn (fun p => p.block < w.heap.size) w d c := by
            intro i hi
            have he := hels i hi
            rw [List.getElem?_eq_getElem (by omega)] at he
            cases hc : w.cells? base (a.add (i * P.cellsOf e)) (P.cellsOf e) with
            | none => rw [hc] at he; cases he
            | some cs' =>
              rw [hc, Option.bind_some] at he
              obtain ⟨_, hcl, hat⟩ := World.cells?_some hc
              obtain ⟨h1, h2⟩ := trod_dc hg n m' e cs' _ (by omega) hGe he
              refine list_of (m := (lv e).length) (Q := fun j d => ∃ L c, (lv e)[j]? = some L ∧ DC P lv L d ∧ w.cell? (a.add (i * (lv e).length + j)) = some c ∧ DIn (fun p => p.block < w.heap.size) w d c) (fun j hj => ?_)
              have hcj : cs'[j]? = some (cs'[j]'(by omega)) := List.getElem?_eq_getElem (by omega)
              have hLj : (lv e)[j]? = some ((lv e)[j]'hj) := List.getElem?_eq_getElem hj
              obtain ⟨d, hd, hdin⟩ := h2 j _ _ hcj hLj
              have ha := hat j (by omega)
              rw [Deep.add_add, ← hle] at ha
              exact ⟨d, _, _, hLj, hd, ha.trans hcj, hdin⟩
          obtain ⟨rows, hrl, hrs⟩ := list_of (m := len) (Q := fun i (r : List D) => r.length = (lv e).length ∧ ∀ (j : Nat) (d : D), r[j]? = some d → ∃ L c, (lv e)[j]? = some L ∧ DC P lv L d ∧ w.cell? (a.add (i * (lv e).length + j)) = some c ∧ DIn (fun p => p.block < w.heap.size) w d c) hrow
          refine ⟨.sl (lv e).length rows, .slice _ e rows hu (by simp only [maxLen] at hcm; omega) (fun r hr => ?_) (fun r hr j d L hd hL => ?_), .ofRow hrl.symm (by omega) (fun _ => ⟨a, rfl⟩) (fun r hr => ?_) (fun i j d hd => ?_)⟩
          · obtain ⟨i, hi⟩ := List.getElem?_of_mem hr
            exact (hrs i r hi).1
          · obtain ⟨i, hi⟩ := List.getElem?_of_mem hr
            obtain ⟨L', c, h1, h2, _⟩ := (hrs i r hi).2 j d hd
            rw [hL] at h1
            cases h1
            exact h2
          · obtain ⟨i, hi⟩ := List.getElem?_of_mem hr
            exact (hrs i r hi).1
          · unfold D.at at hd
            cases hr : rows[i]? with
            | none => rw [hr] at hd; cases hd
            | some r =>
              rw [hr, Option.bind_some] at hd
              obtain ⟨L', c, _, _, h3, h4⟩ := (hrs i r hr).2 j d hd
              exact ⟨a, c, rfl, World.block_lt_of_cell? w _ h3, h3, h4⟩
    · obtain ⟨xs, m, rfl, _, hcl, hxl, hfs⟩ := DataW.trod_struct hu h
      refine ⟨by rw [hcl, hl], fun j c L hc hL => ?_⟩
      obtain ⟨i, f, hfi, h1, h2, hGf, hLf⟩ := hf j L hL
      have hi := hfs i f hfi
      have hlt : i < fs.size := by
        rcases Nat.lt_or_ge i fs.size with h3 | h3
        · exact h3
        · rw [Array.getElem?_eq_none h3] at hfi; cases hfi
      rw [List.getElem?_eq_getElem (by omega)] at hi
      obtain ⟨_, h4⟩ := trod_dc hg n m f.type _ _ (by omega) hGf hi
      refine h4 (j - f.offset) c L ?_ hLf
      rw [List.getElem?_take, if_pos (by omega), List.getElem?_drop, show f.offset + (j - f.offset) = j by omega]
      exact hc
/-- the cells of a row of values -/
theorem dcs_of {cs : List Value} {Ls : List TypeId} (hl : cs.length = Ls.length) (h : ∀ (j : Nat) (c : Value) (L : TypeId), cs[j]? = some c → Ls[j]? = some L → ∃ d, DC P lv L d ∧ DIn (fun p => p.block < w.heap.size) w d c) :
    ∃ ds : List D, LIn (fun p => p.block < w.heap.size) w ds cs ∧ ds.length = Ls.length ∧ ∀ (j : Nat) (d : D) (L : TypeId), ds[j]? = some d → Ls[j]? = some L → DC P lv L d := by
  obtain ⟨ds, h1, h2⟩ := list_of (m := cs.length) (Q := fun j d => ∀ c L, cs[j]? = some c → Ls[j]? = some L → DC P lv L d ∧ DIn (fun p => p.block < w.heap.size) w d c) (fun j hj => by
    obtain ⟨d, hd1, hd2⟩ := h j _ _ (List.getElem?_eq_getElem hj) (List.getElem?_eq_getElem (by omega))
    exact ⟨d, fun c L hc hL => by
      rw [List.getElem?_eq_getElem hj] at hc
      rw [List.getElem?_eq_getElem (by omega)] at hL
      cases hc; cases hL
      exact ⟨hd1, hd2⟩⟩)
  refine ⟨ds, LIn.of h1 (fun j d v hd hv => ?_), by omega, fun j d L hd hL => ?_⟩
  · have hj := (List.getElem?_eq_some_iff.1 hv).1
    exact (h2 j d hd v _ hv (List.getElem?_eq_getElem (by omega))).2
  · have hj := (List.getElem?_eq_some_iff.1 hd).1
    exact (h2 j d hd _ L (List.getElem?_eq_getElem (by omega)) hL).1
/-- an argument that is a struct -/
theorem open_gs (hg : Lvs P lv G) {T : TypeId} (hG : G T) {fs : Array Field} (hu : P.underlying T = some (.struct fs)) {r : Reach} {b0 : Nat} {v : Value} {d : DataW H} {p : List MemPlace} (hv : Value.okWide P w r b0 T v) (h : DataW.Trod enc P w base spare held T v d p) :
    ∃ ds, FV (fun p => p.block < w.heap.size) (fun _ => 0) w (.agg ds) v ∧ ds.length = (lv T).length ∧ ∀ (j : Nat) (d : D) (L : TypeId), ds[j]? = some d → (lv T)[j]? = some L → DC P lv L d := by
  obtain ⟨cs, rfl, _⟩ := okWide_struct hu hv
  obtain ⟨fuel, hf⟩ := h
  obtain ⟨h1, h2⟩ := trod_dc hg fuel fuel _ _ _ (Nat.le_refl _) hG hf
  obtain ⟨ds, h3, h4, h5⟩ := dcs_of h1 h2
  obtain ⟨l⟩ := cs
  exact ⟨ds, ⟨l, rfl, h3⟩, h4, h5⟩
/-- an argument that is a slice -/
theorem open_gr (hg : Lvs P lv G) {T e : TypeId} (hG : G T) (hu : P.underlying T = some (.slice e)) (hl : lv T = [T]) {r : Reach} {b0 : Nat} {v : Value} {d : DataW H} {p : List MemPlace} (hv : Value.okWide P w r b0 T v) (h : DataW.Trod enc P w base spare held T v d p) :
    ∃ x, FV (fun p => p.block < w.heap.size) (fun _ => 0) w (.c x) v ∧ DC P lv T x := by
  obtain ⟨a, len, cap, rfl⟩ := okWide_slice hu hv
  obtain ⟨fuel, hf⟩ := h
  obtain ⟨_, h2⟩ := trod_dc hg fuel fuel _ _ _ (Nat.le_refl _) hG hf
  obtain ⟨x, h3, h4⟩ := h2 0 (.slice a len cap) T rfl (by rw [hl]; rfl)
  exact ⟨x, h4, h3⟩
theorem DC.i {L : TypeId} {d : D} {k : IntKind} (h : DC P lv L d) (hu : P.underlying L = some (.int k)) : ∃ n, d = .lit (.int k n) ∧ (Lit.int k n).wf = true := by
  cases h with
  | int _ k' n h1 h2 => rw [hu] at h1; cases h1; exact ⟨n, rfl, h2⟩
  | bool _ b h1 => rw [hu] at h1; cases h1
  | string _ s h1 => rw [hu] at h1; cases h1
  | slice _ e rows h1 => rw [hu] at h1; cases h1
theorem DC.b {L : TypeId} {d : D} (h : DC P lv L d) (hu : P.underlying L = some .bool) : ∃ b, d = .lit (.bool b) := by
  cases h with
  | int _ k' n h1 h2 => rw [hu] at h1; cases h1
  | bool _ b h1 => exact ⟨b, rfl⟩
  | string _ s h1 => rw [hu] at h1; cases h1
  | slice _ e rows h1 => rw [hu] at h1; cases h1
theorem DC.s {L : TypeId} {d : D} (h : DC P lv L d) (hu : P.underlying L = some .string) : ∃ s, d = .lit (str s) ∧ s.length ≤ 9223372036854775807 := by
  cases h with
  | int _ k' n h1 h2 => rw [hu] at h1; cases h1
  | bool _ b h1 => rw [hu] at h1; cases h1
  | string _ s h1 h2 => exact ⟨s, rfl, h2⟩
  | slice _ e rows h1 => rw [hu] at h1; cases h1
end
end Go.Proofs.YtccdnmjijakofaaGreatDoor
