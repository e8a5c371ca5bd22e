/- Bundle of Gw Gy. -/
import Derived.Test.YtlagglkpbnbmeaaGreatDoorByO
import Derived.SizedLaws
import Derived.Test.YtlagglkpbnbmeaaGreatDoorRU
import Derived.Test.YtlagglkpbnbmeaaGreatDoorPT

/- Arguments opened, with the bounds that their reach tells, whatever their type of numbers, truths, strings, structs and slices is: what their cells hold. -/
namespace Go.Proofs.YtlagglkpbnbmeaaGreatDoor
open Go Go.RowKit Go.ChangeShapes Go.WideShapes Go.Deep

inductive DC (P : Program) (lv : TypeId → List TypeId) : TypeId → D → Prop
  | int (T : TypeId) (k : IntKind) (n : Int) : P.underlying T = some (.int k) → (Lit.int k n).wf = true → DC P lv T (.lit (.int k n))
  | bool (T : TypeId) (b : Bool) : P.underlying T = some .bool → DC P lv T (.lit (.bool b))
  | string (T : TypeId) (s : List UInt8) : P.underlying T = some .string → s.length ≤ 9223372036854775807 → DC P lv T (.lit (str s))
  | slice (T e : TypeId) (rows : List (List D)) : P.underlying T = some (.slice e) → rows.length ≤ 9223372036854775807 → rows.length * P.bytesOf e ≤ reachBytes → (∀ r, r ∈ rows → r.length = (lv e).length) →
      (∀ r, r ∈ rows → ∀ (j : Nat) (d : D) (L : TypeId), r[j]? = some d → (lv e)[j]? = some L → DC P lv L d) → DC P lv T (.sl (lv e).length rows)
def Lvs (P : Program) (lv : TypeId → List TypeId) (G : TypeId → Prop) : Prop := ∀ T, G T →
  ((∃ k, P.underlying T = some (.int k)) ∧ lv T = [T]) ∨ (P.underlying T = some .bool ∧ lv T = [T]) ∨ (P.underlying T = some .string ∧ lv T = [T]) ∨
  (∃ e, P.underlying T = some (.slice e) ∧ lv T = [T] ∧ G e ∧ (lv e).length = P.cellsOf e) ∨
  (∃ fs : Array Field, P.underlying T = some (.struct fs) ∧ (lv T).length = P.cellsOf T ∧ ∀ (j : Nat) (L : TypeId), (lv T)[j]? = some L → ∃ (i : Nat) (f : Field), fs[i]? = some f ∧ f.offset ≤ j ∧ j < f.offset + P.cellsOf f.type ∧ G f.type ∧ (lv f.type)[j - f.offset]? = some L)
theorem list_of {α : Type} {Q : Nat → α → Prop} : ∀ {m : Nat}, (∀ j, j < m → ∃ d, Q j d) → ∃ l : List α, l.length = m ∧ ∀ (j : Nat) (d : α), l[j]? = some d → Q j d
  | 0, _ => ⟨[], rfl, fun j d h => by simp at h⟩
  | m + 1, h => by
    obtain ⟨l, hl, hq⟩ := list_of (m := m) (fun j hj => h j (by omega))
    obtain ⟨d, hd⟩ := h m (by omega)
    refine ⟨l ++ [d], by simp [hl], fun j x hx => ?_⟩
    by_cases hj : j < l.length
    · rw [List.getElem?_append_left hj] at hx
      exact hq j x hx
    · rw [List.getElem?_append_right (by omega)] at hx
      have : j - l.length = 0 := by
        rcases Nat.lt_or_ge (j - l.length) 1 with h1 | h1
        · omega
        · rw [List.getElem?_eq_none (by simp; omega)] at hx; cases hx
      rw [this] at hx
      simp at hx
      subst hx
      have : j = m := by omega
      subst this
      exact hd
theorem weightsAll_mem {H : Type} {P : Program} {e : TypeId} : ∀ {l : List (DataW H)} {d : DataW H}, d ∈ l → ∀ n ∈ d.weights P e, n ∈ DataW.weightsAll P e l
  | [], _, h, _, _ => by cases h
  | x :: l, d, h, n, hn => by
    rw [DataW.weightsAll, List.mem_append]
    rcases List.mem_cons.1 h with rfl | h
    · exact .inl hn
    · exact .inr (weightsAll_mem h n hn)
section
variable {P : Program} {lv : TypeId → List TypeId} {G : TypeId → Prop} {H : Type} {enc : TypeId × Value → H} {w : World} {base : Nat} {spare : Nat → Bool} {held : Bool}
theorem trod_dc (hg : Lvs P lv G) : ∀ (n : Nat) (fuel : Nat) (T : TypeId) (cs : List Value) (x : DataW H × List MemPlace), fuel ≤ n → G T → DataW.trod enc P w base spare held fuel T cs = some x → (∀ q ∈ x.1.weights P T, q ≤ reachBytes) →
    cs.length = (lv T).length ∧ ∀ (j : Nat) (c : Value) (L : TypeId), cs[j]? = some c → (lv T)[j]? = some L → ∃ d, DC P lv L d ∧ DIn (fun p => p.block < w.heap.size) w d c
  | 0, fuel, T, cs, x, hn, _, h, _ => by
    obtain rfl : fuel = 0 := by omega
    simp [DataW.trod] at h
  | n + 1, fuel, T, cs, x, hn, hG, h, hq => by
    rcases hg T hG with ⟨⟨k, hu⟩, hl⟩ | ⟨hu, hl⟩ | ⟨hu, hl⟩ | ⟨e, hu, hl, hGe, hle⟩ | ⟨fs, hu, hl, hf⟩
    · obtain ⟨m, rfl, _, hw⟩ := DataW.trod_int hu h
      rw [hl]
      refine ⟨rfl, fun j c L hc hL => ?_⟩
      cases j with
      | zero => simp at hc hL; subst hc; subst hL; exact ⟨_, .int _ k m hu hw, .lit _ rfl⟩
      | succ j => simp at hc
    · obtain ⟨b, rfl, _⟩ := DataW.trod_bool hu h
      rw [hl]
      refine ⟨rfl, fun j c L hc hL => ?_⟩
      cases j with
      | zero => simp at hc hL; subst hc; subst hL; exact ⟨_, .bool _ b hu, .lit _ rfl⟩
      | succ j => simp at hc
    · obtain ⟨s, rfl, _, hs⟩ := DataW.trod_string hu h
      obtain ⟨s', rfl⟩ : ∃ s' : List UInt8, s = ⟨s'.toArray⟩ := ⟨s.data.toList, by simp⟩
      have hs' : s'.length ≤ 9223372036854775807 := by simpa [ByteArray.size, maxLen] using hs
      rw [hl]
      refine ⟨rfl, fun j c L hc hL => ?_⟩
      cases j with
      | zero => simp at hc hL; subst hc; subst hL; exact ⟨_, .string _ s' hu hs', .lit _ rfl⟩
      | succ j => simp at hc
    · rw [hl]
      rcases DataW.trod_slice hu h with ⟨e0, _⟩ | ⟨a, len, cap, elems, rest, m', rfl, e0, hx0, _, hlc, hcm, hel, hels, _⟩
      · subst e0
        refine ⟨rfl, fun j c L hc hL => ?_⟩
        cases j with
        | zero => simp at hc hL; subst hc; subst hL; exact ⟨_, .slice _ e [] hu (Nat.zero_le _) (by simp) (by simp) (by simp), .nil none 0⟩
        | succ j => simp at hc
      · subst e0
        subst hx0
        simp only [DataW.weights, hu] at hq
        have hq0 := hq _ (List.mem_cons_self ..)
        have hq1 : ∀ y ∈ elems, ∀ q ∈ y.1.weights P e, q ≤ reachBytes := fun y hy q hqy => hq q (List.mem_cons_of_mem _ (List.mem_append_left _ (weightsAll_mem (List.mem_map.2 ⟨y, hy, rfl⟩) q hqy)))
        refine ⟨rfl, fun j c L hc hL => ?_⟩
        cases j with
        | succ j => simp at hc
        | zero =>
          simp at hc hL
          subst hc; subst hL
          have hrow : ∀ i, i < len → ∃ r : List D, r.length = (lv e).length ∧ ∀ (j : Nat) (d : D), r[j]? = some d → ∃ L c, (lv e)[j]? = some L ∧ DC P lv L d ∧ w.cell? (a.add (i * (lv e).length + j)) = some c ∧ DIn (fun p => p.block < w.heap.size) w d c := by
            intro i hi
            have he := hels i hi
            rw [List.getElem?_eq_getElem (by omega)] at he
            cases hc : w.cells? base (a.add (i * P.cellsOf e)) (P.cellsOf e) with
            | none => rw [hc] at he; cases he
            | some cs' =>
              rw [hc, Option.bind_some] at he
              obtain ⟨_, hcl, hat⟩ := World.cells?_some hc
              obtain ⟨h1, h2⟩ := trod_dc hg n m' e cs' _ (by omega) hGe he (hq1 _ (List.getElem_mem _))
              refine list_of (m := (lv e).length) (Q := fun j d => ∃ L c, (lv e)[j]? = some L ∧ DC P lv L d ∧ w.cell? (a.add (i * (lv e).length + j)) = some c ∧ DIn (fun p => p.block < w.heap.size) w d c) (fun j hj => ?_)
              have hcj : cs'[j]? = some (cs'[j]'(by omega)) := List.getElem?_eq_getElem (by omega)
              have hLj : (lv e)[j]? = some ((lv e)[j]'hj) := List.getElem?_eq_getElem hj
              obtain ⟨d, hd, hdin⟩ := h2 j _ _ hcj hLj
              have ha := hat j (by omega)
              rw [Deep.add_add, ← hle] at ha
              exact ⟨d, _, _, hLj, hd, ha.trans hcj, hdin⟩
          obtain ⟨rows, hrl, hrs⟩ := list_of (m := len) (Q := fun i (r : List D) => r.length = (lv e).length ∧ ∀ (j : Nat) (d : D), r[j]? = some d → ∃ L c, (lv e)[j]? = some L ∧ DC P lv L d ∧ w.cell? (a.add (i * (lv e).length + j)) = some c ∧ DIn (fun p => p.block < w.heap.size) w d c) hrow
          refine ⟨.sl (lv e).length rows, .slice _ e rows hu (by simp only [maxLen] at hcm; omega) (by rw [hrl, ← hel]; refine Nat.le_trans (Nat.mul_le_mul_right _ ?_) hq0; simp) (fun r hr => ?_) (fun r hr j d L hd hL => ?_), .ofRow hrl.symm (by omega) (fun _ => ⟨a, rfl⟩) (fun r hr => ?_) (fun i j d hd => ?_)⟩
          · obtain ⟨i, hi⟩ := List.getElem?_of_mem hr
            exact (hrs i r hi).1
          · obtain ⟨i, hi⟩ := List.getElem?_of_mem hr
            obtain ⟨L', c, h1, h2, _⟩ := (hrs i r hi).2 j d hd
            rw [hL] at h1
            cases h1
            exact h2
          · obtain ⟨i, hi⟩ := List.getElem?_of_mem hr
            exact (hrs i r hi).1
          · unfold D.at at hd
            cases hr : rows[i]? with
            | none => rw [hr] at hd; cases hd
            | some r =>
              rw [hr, Option.bind_some] at hd
              obtain ⟨L', c, _, _, h3, h4⟩ := (hrs i r hr).2 j d hd
              exact ⟨a, c, rfl, World.block_lt_of_cell? w _ h3, h3, h4⟩
    · obtain ⟨xs, m, rfl, hx0, hcl, hxl, hfs⟩ := DataW.trod_struct hu h
      subst hx0
      simp only [DataW.weights, hu] at hq
      refine ⟨by rw [hcl, hl], fun j c L hc hL => ?_⟩
      obtain ⟨i, f, hfi, h1, h2, hGf, hLf⟩ := hf j L hL
      have hi := hfs i f hfi
      have hlt : i < fs.size := by
        rcases Nat.lt_or_ge i fs.size with h3 | h3
        · exact h3
        · rw [Array.getElem?_eq_none h3] at hfi; cases hfi
      rw [List.getElem?_eq_getElem (by omega)] at hi
      obtain ⟨_, h4⟩ := trod_dc hg n m f.type _ _ (by omega) hGf hi (fun q hqf => hq q (DataW.weights_mem_each (j := i) (by simp [hfi]) (by simp [List.getElem?_eq_getElem (show i < xs.length by omega)]) q hqf))
      refine h4 (j - f.offset) c L ?_ hLf
      rw [List.getElem?_take, if_pos (by omega), List.getElem?_drop, show f.offset + (j - f.offset) = j by omega]
      exact hc
theorem dcs_of {cs : List Value} {Ls : List TypeId} (hl : cs.length = Ls.length) (h : ∀ (j : Nat) (c : Value) (L : TypeId), cs[j]? = some c → Ls[j]? = some L → ∃ d, DC P lv L d ∧ DIn (fun p => p.block < w.heap.size) w d c) :
    ∃ ds : List D, LIn (fun p => p.block < w.heap.size) w ds cs ∧ ds.length = Ls.length ∧ ∀ (j : Nat) (d : D) (L : TypeId), ds[j]? = some d → Ls[j]? = some L → DC P lv L d := by
  obtain ⟨ds, h1, h2⟩ := list_of (m := cs.length) (Q := fun j d => ∀ c L, cs[j]? = some c → Ls[j]? = some L → DC P lv L d ∧ DIn (fun p => p.block < w.heap.size) w d c) (fun j hj => by
    obtain ⟨d, hd1, hd2⟩ := h j _ _ (List.getElem?_eq_getElem hj) (List.getElem?_eq_getElem (by omega))
    exact ⟨d, fun c L hc hL => by
      rw [List.getElem?_eq_getElem hj] at hc
      rw [List.getElem?_eq_getElem (by omega)] at hL
      cases hc; cases hL
      exact ⟨hd1, hd2⟩⟩)
  refine ⟨ds, LIn.of h1 (fun j d v hd hv => ?_), by omega, fun j d L hd hL => ?_⟩
  · have hj := (List.getElem?_eq_some_iff.1 hv).1
    exact (h2 j d hd v _ hv (List.getElem?_eq_getElem (by omega))).2
  · have hj := (List.getElem?_eq_some_iff.1 hd).1
    exact (h2 j d hd _ L (List.getElem?_eq_getElem (by omega)) hL).1
theorem open_gs (hg : Lvs P lv G) {T : TypeId} (hG : G T) {fs : Array Field} (hu : P.underlying T = some (.struct fs)) {r : Reach} {b0 : Nat} {v : Value} {d : DataW H} {p : List MemPlace} (hv : Value.okWide P w r b0 T v) (h : DataW.Trod enc P w base spare held T v d p) (hq : ∀ q ∈ d.weights P T, q ≤ reachBytes) :
    ∃ ds, FV (fun p => p.block < w.heap.size) (fun _ => 0) w (.agg ds) v ∧ ds.length = (lv T).length ∧ ∀ (j : Nat) (d : D) (L : TypeId), ds[j]? = some d → (lv T)[j]? = some L → DC P lv L d := by
  obtain ⟨cs, rfl, _⟩ := okWide_struct hu hv
  obtain ⟨fuel, hf⟩ := h
  obtain ⟨h1, h2⟩ := trod_dc hg fuel fuel _ _ _ (Nat.le_refl _) hG hf hq
  obtain ⟨ds, h3, h4, h5⟩ := dcs_of h1 h2
  obtain ⟨l⟩ := cs
  exact ⟨ds, ⟨l, rfl, h3⟩, h4, h5⟩
theorem DC.i {L : TypeId} {d : D} {k : IntKind} (h : DC P lv L d) (hu : P.underlying L = some (.int k)) : ∃ n, d = .lit (.int k n) ∧ (Lit.int k n).wf = true := by
  cases h with
  | int _ k' n h1 h2 => rw [hu] at h1; cases h1; exact ⟨n, rfl, h2⟩
  | bool _ b h1 => rw [hu] at h1; cases h1
  | string _ s h1 => rw [hu] at h1; cases h1
  | slice _ e rows h1 => rw [hu] at h1; cases h1
theorem DC.b {L : TypeId} {d : D} (h : DC P lv L d) (hu : P.underlying L = some .bool) : ∃ b, d = .lit (.bool b) := by
  cases h with
  | int _ k' n h1 h2 => rw [hu] at h1; cases h1
  | bool _ b h1 => exact ⟨b, rfl⟩
  | string _ s h1 => rw [hu] at h1; cases h1
  | slice _ e rows h1 => rw [hu] at h1; cases h1
theorem DC.s {L : TypeId} {d : D} (h : DC P lv L d) (hu : P.underlying L = some .string) : ∃ s, d = .lit (str s) ∧ s.length ≤ 9223372036854775807 := by
  cases h with
  | int _ k' n h1 h2 => rw [hu] at h1; cases h1
  | bool _ b h1 => rw [hu] at h1; cases h1
  | string _ s h1 h2 => exact ⟨s, rfl, h2⟩
  | slice _ e rows h1 => rw [hu] at h1; cases h1
end
end Go.Proofs.YtlagglkpbnbmeaaGreatDoor

/- The types of the arguments of the laws of layer 7: what their cells hold, with the bounds that their reach tells. -/
namespace Go.Proofs.YtlagglkpbnbmeaaGreatDoor
open Go Go.RowKit Go.ChangeShapes Go.WideShapes Go.Deep
set_option maxRecDepth 100000
set_option linter.unusedVariables false

def lvD (T : TypeId) : List TypeId := if T = 30 then [3, 3, 3, 9, 9, 2, 9, 3, 3, 3, 24, 3, 3, 24, 27, 28] else if T = 23 then [3, 3] else if T = 26 then [3, 3, 24] else if T = 40 then [3, 3, 3, 9, 2, 9, 27] else [T]
def gD : List TypeId := [30, 3, 23, 9, 2, 26, 24, 27, 40, 28]
theorem lvs_ok : Lvs Tryz.prog lvD (fun T => T ∈ gD) := by
  intro T hT
  simp only [gD, List.mem_cons, List.not_mem_nil, or_false] at hT
  rcases hT with rfl | rfl | rfl | rfl | rfl | rfl | rfl | rfl | rfl | rfl
  · refine .inr (.inr (.inr (.inr ⟨_, Tryz.underlying30, by kernel_rfl, fun j L h => ?_⟩)))
    match j, h with
    | 0, h => cases h; exact ⟨0, _, rfl, Nat.le_of_ble_eq_true (by kernel_rfl), Nat.le_of_ble_eq_true (by kernel_rfl), by simp [gD], rfl⟩
    | 1, h => cases h; exact ⟨1, _, rfl, Nat.le_of_ble_eq_true (by kernel_rfl), Nat.le_of_ble_eq_true (by kernel_rfl), by simp [gD], rfl⟩
    | 2, h => cases h; exact ⟨1, _, rfl, Nat.le_of_ble_eq_true (by kernel_rfl), Nat.le_of_ble_eq_true (by kernel_rfl), by simp [gD], rfl⟩
    | 3, h => cases h; exact ⟨2, _, rfl, Nat.le_of_ble_eq_true (by kernel_rfl), Nat.le_of_ble_eq_true (by kernel_rfl), by simp [gD], rfl⟩
    | 4, h => cases h; exact ⟨3, _, rfl, Nat.le_of_ble_eq_true (by kernel_rfl), Nat.le_of_ble_eq_true (by kernel_rfl), by simp [gD], rfl⟩
    | 5, h => cases h; exact ⟨4, _, rfl, Nat.le_of_ble_eq_true (by kernel_rfl), Nat.le_of_ble_eq_true (by kernel_rfl), by simp [gD], rfl⟩
    | 6, h => cases h; exact ⟨5, _, rfl, Nat.le_of_ble_eq_true (by kernel_rfl), Nat.le_of_ble_eq_true (by kernel_rfl), by simp [gD], rfl⟩
    | 7, h => cases h; exact ⟨6, _, rfl, Nat.le_of_ble_eq_true (by kernel_rfl), Nat.le_of_ble_eq_true (by kernel_rfl), by simp [gD], rfl⟩
    | 8, h => cases h; exact ⟨7, _, rfl, Nat.le_of_ble_eq_true (by kernel_rfl), Nat.le_of_ble_eq_true (by kernel_rfl), by simp [gD], rfl⟩
    | 9, h => cases h; exact ⟨7, _, rfl, Nat.le_of_ble_eq_true (by kernel_rfl), Nat.le_of_ble_eq_true (by kernel_rfl), by simp [gD], rfl⟩
    | 10, h => cases h; exact ⟨7, _, rfl, Nat.le_of_ble_eq_true (by kernel_rfl), Nat.le_of_ble_eq_true (by kernel_rfl), by simp [gD], rfl⟩
    | 11, h => cases h; exact ⟨8, _, rfl, Nat.le_of_ble_eq_true (by kernel_rfl), Nat.le_of_ble_eq_true (by kernel_rfl), by simp [gD], rfl⟩
    | 12, h => cases h; exact ⟨8, _, rfl, Nat.le_of_ble_eq_true (by kernel_rfl), Nat.le_of_ble_eq_true (by kernel_rfl), by simp [gD], rfl⟩
    | 13, h => cases h; exact ⟨8, _, rfl, Nat.le_of_ble_eq_true (by kernel_rfl), Nat.le_of_ble_eq_true (by kernel_rfl), by simp [gD], rfl⟩
    | 14, h => cases h; exact ⟨9, _, rfl, Nat.le_of_ble_eq_true (by kernel_rfl), Nat.le_of_ble_eq_true (by kernel_rfl), by simp [gD], rfl⟩
    | 15, h => cases h; exact ⟨10, _, rfl, Nat.le_of_ble_eq_true (by kernel_rfl), Nat.le_of_ble_eq_true (by kernel_rfl), by simp [gD], rfl⟩
    | j + 16, h => cases h
  · exact .inl ⟨⟨_, Tryz.underlying3⟩, rfl⟩
  · refine .inr (.inr (.inr (.inr ⟨_, Tryz.underlying23, by kernel_rfl, fun j L h => ?_⟩)))
    match j, h with
    | 0, h => cases h; exact ⟨0, _, rfl, Nat.le_of_ble_eq_true (by kernel_rfl), Nat.le_of_ble_eq_true (by kernel_rfl), by simp [gD], rfl⟩
    | 1, h => cases h; exact ⟨1, _, rfl, Nat.le_of_ble_eq_true (by kernel_rfl), Nat.le_of_ble_eq_true (by kernel_rfl), by simp [gD], rfl⟩
    | j + 2, h => cases h
  · exact .inr (.inr (.inl ⟨Tryz.underlying9, rfl⟩))
  · exact .inl ⟨⟨_, Tryz.underlying2⟩, rfl⟩
  · refine .inr (.inr (.inr (.inr ⟨_, Tryz.underlying26, by kernel_rfl, fun j L h => ?_⟩)))
    match j, h with
    | 0, h => cases h; exact ⟨0, _, rfl, Nat.le_of_ble_eq_true (by kernel_rfl), Nat.le_of_ble_eq_true (by kernel_rfl), by simp [gD], rfl⟩
    | 1, h => cases h; exact ⟨1, _, rfl, Nat.le_of_ble_eq_true (by kernel_rfl), Nat.le_of_ble_eq_true (by kernel_rfl), by simp [gD], rfl⟩
    | 2, h => cases h; exact ⟨2, _, rfl, Nat.le_of_ble_eq_true (by kernel_rfl), Nat.le_of_ble_eq_true (by kernel_rfl), by simp [gD], rfl⟩
    | j + 3, h => cases h
  · exact .inr (.inr (.inr (.inl ⟨_, Tryz.underlying24, rfl, by simp [gD], by kernel_rfl⟩)))
  · exact .inr (.inr (.inr (.inl ⟨_, Tryz.underlying27, rfl, by simp [gD], by kernel_rfl⟩)))
  · refine .inr (.inr (.inr (.inr ⟨_, Tryz.underlying40, by kernel_rfl, fun j L h => ?_⟩)))
    match j, h with
    | 0, h => cases h; exact ⟨0, _, rfl, Nat.le_of_ble_eq_true (by kernel_rfl), Nat.le_of_ble_eq_true (by kernel_rfl), by simp [gD], rfl⟩
    | 1, h => cases h; exact ⟨1, _, rfl, Nat.le_of_ble_eq_true (by kernel_rfl), Nat.le_of_ble_eq_true (by kernel_rfl), by simp [gD], rfl⟩
    | 2, h => cases h; exact ⟨1, _, rfl, Nat.le_of_ble_eq_true (by kernel_rfl), Nat.le_of_ble_eq_true (by kernel_rfl), by simp [gD], rfl⟩
    | 3, h => cases h; exact ⟨2, _, rfl, Nat.le_of_ble_eq_true (by kernel_rfl), Nat.le_of_ble_eq_true (by kernel_rfl), by simp [gD], rfl⟩
    | 4, h => cases h; exact ⟨3, _, rfl, Nat.le_of_ble_eq_true (by kernel_rfl), Nat.le_of_ble_eq_true (by kernel_rfl), by simp [gD], rfl⟩
    | 5, h => cases h; exact ⟨4, _, rfl, Nat.le_of_ble_eq_true (by kernel_rfl), Nat.le_of_ble_eq_true (by kernel_rfl), by simp [gD], rfl⟩
    | 6, h => cases h; exact ⟨5, _, rfl, Nat.le_of_ble_eq_true (by kernel_rfl), Nat.le_of_ble_eq_true (by kernel_rfl), by simp [gD], rfl⟩
    | j + 7, h => cases h
  · exact .inr (.inr (.inr (.inl ⟨_, Tryz.underlying28, rfl, by simp [gD], by kernel_rfl⟩)))

theorem map_of {α β : Type} {f : α → β} {Q : α → Prop} : ∀ {rows : List β}, (∀ r, r ∈ rows → ∃ c, r = f c ∧ Q c) → ∃ l : List α, rows = l.map f ∧ ∀ x, x ∈ l → Q x
  | [], _ => ⟨[], rfl, by simp⟩
  | r :: rows, h => by
    obtain ⟨l, h1, h2⟩ := map_of (rows := rows) (fun r hr => h r (by simp [hr]))
    obtain ⟨c, h3, h4⟩ := h r (by simp)
    refine ⟨c :: l, by rw [h1, h3]; rfl, fun x hx => ?_⟩
    rcases List.mem_cons.1 hx with rfl | hx
    · exact h4
    · exact h2 x hx
inductive ExP : Ex → Prop
  | mk {k a b : Int} {nm arg : List UInt8} {m : Int} {s : List UInt8} {op : Int} {A B : Ty} {pats : List Pa} {kids : List Ex} : pats.length ≤ 1599289640354 → (∀ e, e ∈ kids → ExP e) → ExP (.mk k a b nm arg m s op A B pats kids)
theorem bytes_pat : Tryz.prog.bytesOf 40 = 88 := by kernel_rfl
abbrev Cell (L : TypeId) (d : D) : Prop := DC Tryz.prog lvD L d
theorem dc_tys {T : TypeId} {d : D} (h : Cell T d) : T = 24 → ∃ l : List Ty, d = .sl 3 (tysD l) ∧ l.length ≤ 9223372036854775807 ∧ ∀ x, x ∈ l → TyL x := by
  induction h with
  | int _ _ _ hu => intro e; subst e; rw [Tryz.underlying24] at hu; cases hu
  | bool _ _ hu => intro e; subst e; rw [Tryz.underlying24] at hu; cases hu
  | string _ _ hu => intro e; subst e; rw [Tryz.underlying24] at hu; cases hu
  | slice T e rows hu hlen hrb hr hk ih =>
    intro e0
    subst e0
    rw [Tryz.underlying24] at hu
    cases hu
    obtain ⟨l, h1, h2⟩ := map_of (f := tyD) (Q := TyL) (rows := rows) (fun r hr1 => by
      have hl : r.length = 3 := hr r hr1
      match r, hl with
      | [d0, d1, d2], _ =>
        obtain ⟨k, rfl, _⟩ := (hk _ hr1 0 d0 3 rfl rfl).i Tryz.underlying3
        obtain ⟨n, rfl, _⟩ := (hk _ hr1 1 d1 3 rfl rfl).i Tryz.underlying3
        obtain ⟨ks, rfl, hkl, hks⟩ := ih _ hr1 2 d2 24 rfl rfl rfl
        exact ⟨.mk k n ks, by rw [tyD_eq]; rfl, .mk hkl hks⟩)
    subst h1
    exact ⟨l, by rw [tysD_map]; rfl, by simpa using hlen, h2⟩
theorem dc_pas {T : TypeId} {d : D} (h : Cell T d) : T = 27 → ∃ l : List Pa, d = .sl 7 (pasD l) ∧ l.length ≤ 1599289640354 ∧ ∀ x, x ∈ l → PaL x ∧ PaN x := by
  induction h with
  | int _ _ _ hu => intro e; subst e; rw [Tryz.underlying27] at hu; cases hu
  | bool _ _ hu => intro e; subst e; rw [Tryz.underlying27] at hu; cases hu
  | string _ _ hu => intro e; subst e; rw [Tryz.underlying27] at hu; cases hu
  | slice T e rows hu hlen hrb hr hk ih =>
    intro e0
    subst e0
    rw [Tryz.underlying27] at hu
    cases hu
    obtain ⟨l, h1, h2⟩ := map_of (f := paX) (Q := fun x => PaL x ∧ PaN x) (rows := rows) (fun r hr1 => by
      have hl : r.length = 7 := hr r hr1
      match r, hl with
      | [d0, d1, d2, d3, d4, d5, d6], _ =>
        obtain ⟨k, rfl, _⟩ := (hk _ hr1 0 d0 3 rfl rfl).i Tryz.underlying3
        obtain ⟨a, rfl, _⟩ := (hk _ hr1 1 d1 3 rfl rfl).i Tryz.underlying3
        obtain ⟨b, rfl, _⟩ := (hk _ hr1 2 d2 3 rfl rfl).i Tryz.underlying3
        obtain ⟨nm, rfl, _⟩ := (hk _ hr1 3 d3 9 rfl rfl).s Tryz.underlying9
        obtain ⟨n, rfl, hn⟩ := (hk _ hr1 4 d4 2 rfl rfl).i Tryz.underlying2
        obtain ⟨s, rfl, _⟩ := (hk _ hr1 5 d5 9 rfl rfl).s Tryz.underlying9
        obtain ⟨ks, rfl, hkl, hks⟩ := ih _ hr1 6 d6 27 rfl rfl rfl
        exact ⟨.mk k a b nm n s ks, rfl, .mk (by omega) (fun x hx => (hks x hx).1), .mk (lit_i64 hn) (fun x hx => (hks x hx).2)⟩)
    subst h1
    exact ⟨l, by rw [pasD_map]; rfl, by
      rw [bytes_pat, List.length_map] at hrb
      have : reachBytes = 140737488351232 := rfl
      omega, h2⟩
theorem dc_exs {T : TypeId} {d : D} (h : Cell T d) : T = 28 → ∃ l : List Ex, d = .sl 16 (exsD l) ∧ l.length ≤ 9223372036854775807 ∧ ∀ x, x ∈ l → ExL x ∧ ExN x ∧ ExP x := by
  induction h with
  | int _ _ _ hu => intro e; subst e; rw [Tryz.underlying28] at hu; cases hu
  | bool _ _ hu => intro e; subst e; rw [Tryz.underlying28] at hu; cases hu
  | string _ _ hu => intro e; subst e; rw [Tryz.underlying28] at hu; cases hu
  | slice T e rows hu hlen hrb hr hk ih =>
    intro e0
    subst e0
    rw [Tryz.underlying28] at hu
    cases hu
    obtain ⟨l, h1, h2⟩ := map_of (f := exX) (Q := fun x => ExL x ∧ ExN x ∧ ExP x) (rows := rows) (fun r hr1 => by
      have hl : r.length = 16 := hr r hr1
      match r, hl with
      | [d0, d1, d2, d3, d4, d5, d6, d7, d8, d9, d10, d11, d12, d13, d14, d15], _ =>
        obtain ⟨k, rfl, _⟩ := (hk _ hr1 0 d0 3 rfl rfl).i Tryz.underlying3
        obtain ⟨a, rfl, _⟩ := (hk _ hr1 1 d1 3 rfl rfl).i Tryz.underlying3
        obtain ⟨b, rfl, _⟩ := (hk _ hr1 2 d2 3 rfl rfl).i Tryz.underlying3
        obtain ⟨nm, rfl, _⟩ := (hk _ hr1 3 d3 9 rfl rfl).s Tryz.underlying9
        obtain ⟨ag, rfl, _⟩ := (hk _ hr1 4 d4 9 rfl rfl).s Tryz.underlying9
        obtain ⟨n, rfl, hn⟩ := (hk _ hr1 5 d5 2 rfl rfl).i Tryz.underlying2
        obtain ⟨s, rfl, _⟩ := (hk _ hr1 6 d6 9 rfl rfl).s Tryz.underlying9
        obtain ⟨op, rfl, _⟩ := (hk _ hr1 7 d7 3 rfl rfl).i Tryz.underlying3
        obtain ⟨ak, rfl, _⟩ := (hk _ hr1 8 d8 3 rfl rfl).i Tryz.underlying3
        obtain ⟨an, rfl, _⟩ := (hk _ hr1 9 d9 3 rfl rfl).i Tryz.underlying3
        obtain ⟨aks, rfl, hal, hak⟩ := dc_tys (hk _ hr1 10 d10 24 rfl rfl) rfl
        obtain ⟨bk, rfl, _⟩ := (hk _ hr1 11 d11 3 rfl rfl).i Tryz.underlying3
        obtain ⟨bn, rfl, _⟩ := (hk _ hr1 12 d12 3 rfl rfl).i Tryz.underlying3
        obtain ⟨bks, rfl, hbl, hbk⟩ := dc_tys (hk _ hr1 13 d13 24 rfl rfl) rfl
        obtain ⟨ps, rfl, hpl, hps⟩ := dc_pas (hk _ hr1 14 d14 27 rfl rfl) rfl
        obtain ⟨ks, rfl, hkl, hks⟩ := ih _ hr1 15 d15 28 rfl rfl rfl
        exact ⟨.mk k a b nm ag n s op (.mk ak an aks) (.mk bk bn bks) ps ks, rfl, .mk (.mk hal hak) (.mk hbl hbk) (by omega) hkl (fun x hx => (hps x hx).1) (fun x hx => (hks x hx).1), .mk (lit_i64 hn) (fun x hx => (hps x hx).2) (fun x hx => (hks x hx).2.1), .mk hpl (fun x hx => (hks x hx).2.2)⟩)
    subst h1
    exact ⟨l, by rw [exsD_map]; rfl, by simpa using hlen, h2⟩
section
variable {H : Type} {enc : TypeId × Value → H} {w : World} {base : Nat} {spare : Nat → Bool} {held : Bool}
theorem open_ex {r : Reach} {b0 : Nat} {v : Value} {d : DataW H} {p : List MemPlace} (hv : Value.okWide Tryz.prog w r b0 30 v) (h : DataW.Trod enc Tryz.prog w base spare held 30 v d p) (hq : ∀ q ∈ d.weights Tryz.prog 30, q ≤ reachBytes) :
    ∃ x : Ex, FV (fun p => p.block < w.heap.size) (fun _ => 0) w (.agg (exX x)) v ∧ ExL x ∧ ExN x ∧ ExP x := by
  obtain ⟨ds, hfv, hlen, hk⟩ := open_gs lvs_ok (by simp [gD]) Tryz.underlying30 hv h hq
  replace hlen : ds.length = 16 := hlen
  match ds, hlen with
  | [d0, d1, d2, d3, d4, d5, d6, d7, d8, d9, d10, d11, d12, d13, d14, d15], _ =>
    obtain ⟨k, rfl, _⟩ := (hk 0 d0 3 rfl rfl).i Tryz.underlying3
    obtain ⟨a, rfl, _⟩ := (hk 1 d1 3 rfl rfl).i Tryz.underlying3
    obtain ⟨b, rfl, _⟩ := (hk 2 d2 3 rfl rfl).i Tryz.underlying3
    obtain ⟨nm, rfl, _⟩ := (hk 3 d3 9 rfl rfl).s Tryz.underlying9
    obtain ⟨ag, rfl, _⟩ := (hk 4 d4 9 rfl rfl).s Tryz.underlying9
    obtain ⟨n, rfl, hn⟩ := (hk 5 d5 2 rfl rfl).i Tryz.underlying2
    obtain ⟨s, rfl, _⟩ := (hk 6 d6 9 rfl rfl).s Tryz.underlying9
    obtain ⟨op, rfl, _⟩ := (hk 7 d7 3 rfl rfl).i Tryz.underlying3
    obtain ⟨ak, rfl, _⟩ := (hk 8 d8 3 rfl rfl).i Tryz.underlying3
    obtain ⟨an, rfl, _⟩ := (hk 9 d9 3 rfl rfl).i Tryz.underlying3
    obtain ⟨aks, rfl, hal, hak⟩ := dc_tys (hk 10 d10 24 rfl rfl) rfl
    obtain ⟨bk, rfl, _⟩ := (hk 11 d11 3 rfl rfl).i Tryz.underlying3
    obtain ⟨bn, rfl, _⟩ := (hk 12 d12 3 rfl rfl).i Tryz.underlying3
    obtain ⟨bks, rfl, hbl, hbk⟩ := dc_tys (hk 13 d13 24 rfl rfl) rfl
    obtain ⟨ps, rfl, hpl, hps⟩ := dc_pas (hk 14 d14 27 rfl rfl) rfl
    obtain ⟨ks, rfl, hkl, hks⟩ := dc_exs (hk 15 d15 28 rfl rfl) rfl
    exact ⟨.mk k a b nm ag n s op (.mk ak an aks) (.mk bk bn bks) ps ks, hfv, .mk (.mk hal hak) (.mk hbl hbk) (by omega) hkl (fun x hx => (hps x hx).1) (fun x hx => (hks x hx).1), .mk (lit_i64 hn) (fun x hx => (hps x hx).2) (fun x hx => (hks x hx).2.1), .mk hpl (fun x hx => (hks x hx).2.2)⟩
theorem open_pa {r : Reach} {b0 : Nat} {v : Value} {d : DataW H} {p : List MemPlace} (hv : Value.okWide Tryz.prog w r b0 40 v) (h : DataW.Trod enc Tryz.prog w base spare held 40 v d p) (hq : ∀ q ∈ d.weights Tryz.prog 40, q ≤ reachBytes) :
    ∃ x : Pa, FV (fun p => p.block < w.heap.size) (fun _ => 0) w (.agg (paX x)) v ∧ PaL x ∧ PaN x := by
  obtain ⟨ds, hfv, hlen, hk⟩ := open_gs lvs_ok (by simp [gD]) Tryz.underlying40 hv h hq
  replace hlen : ds.length = 7 := hlen
  match ds, hlen with
  | [d0, d1, d2, d3, d4, d5, d6], _ =>
    obtain ⟨k, rfl, _⟩ := (hk 0 d0 3 rfl rfl).i Tryz.underlying3
    obtain ⟨a, rfl, _⟩ := (hk 1 d1 3 rfl rfl).i Tryz.underlying3
    obtain ⟨b, rfl, _⟩ := (hk 2 d2 3 rfl rfl).i Tryz.underlying3
    obtain ⟨nm, rfl, _⟩ := (hk 3 d3 9 rfl rfl).s Tryz.underlying9
    obtain ⟨n, rfl, hn⟩ := (hk 4 d4 2 rfl rfl).i Tryz.underlying2
    obtain ⟨s, rfl, _⟩ := (hk 5 d5 9 rfl rfl).s Tryz.underlying9
    obtain ⟨ks, rfl, hkl, hks⟩ := dc_pas (hk 6 d6 27 rfl rfl) rfl
    exact ⟨.mk k a b nm n s ks, hfv, .mk (by omega) (fun x hx => (hks x hx).1), .mk (lit_i64 hn) (fun x hx => (hks x hx).2)⟩
end
end Go.Proofs.YtlagglkpbnbmeaaGreatDoor

