/- The types of the arguments of the laws of layer 27: what their cells hold. -/
import Derived.Test.YtccdnmjijakofaaDoorGn
import Derived.Test.YtccdnmjijakofaaDoorTl
namespace Go.Proofs.YtccdnmjijakofaaDoor
open Go Go.RowKit Go.ChangeShapes Go.WideShapes Go.Deep
set_option maxRecDepth 100000
set_option linter.unusedVariables false

def lvD (T : TypeId) : List TypeId := if T = 27 then [3, 2, 9, 3, 3, 3, 4, 22, 25] else if T = 24 then [3, 3, 3, 4, 22] else [T]
def gD : List TypeId := [27, 3, 2, 9, 24, 4, 22, 25]
theorem lvs_ok : Lvs Tryd.prog lvD (fun T => T ∈ gD) := by
  intro T hT
  simp only [gD, List.mem_cons, List.not_mem_nil, or_false] at hT
  rcases hT with rfl | rfl | rfl | rfl | rfl | rfl | rfl | rfl
  · refine .inr (.inr (.inr (.inr ⟨_, Tryd.underlying27, by kernel_rfl, fun j L h => ?_⟩)))
    match j, h with
    | 0, h => cases h; exact ⟨0, _, rfl, Nat.le_of_ble_eq_true (by kernel_rfl), Nat.le_of_ble_eq_true (by kernel_rfl), by simp [gD], rfl⟩
    | 1, h => cases h; exact ⟨1, _, rfl, Nat.le_of_ble_eq_true (by kernel_rfl), Nat.le_of_ble_eq_true (by kernel_rfl), by simp [gD], rfl⟩
    | 2, h => cases h; exact ⟨2, _, rfl, Nat.le_of_ble_eq_true (by kernel_rfl), Nat.le_of_ble_eq_true (by kernel_rfl), by simp [gD], rfl⟩
    | 3, h => cases h; exact ⟨3, _, rfl, Nat.le_of_ble_eq_true (by kernel_rfl), Nat.le_of_ble_eq_true (by kernel_rfl), by simp [gD], rfl⟩
    | 4, h => cases h; exact ⟨3, _, rfl, Nat.le_of_ble_eq_true (by kernel_rfl), Nat.le_of_ble_eq_true (by kernel_rfl), by simp [gD], rfl⟩
    | 5, h => cases h; exact ⟨3, _, rfl, Nat.le_of_ble_eq_true (by kernel_rfl), Nat.le_of_ble_eq_true (by kernel_rfl), by simp [gD], rfl⟩
    | 6, h => cases h; exact ⟨3, _, rfl, Nat.le_of_ble_eq_true (by kernel_rfl), Nat.le_of_ble_eq_true (by kernel_rfl), by simp [gD], rfl⟩
    | 7, h => cases h; exact ⟨3, _, rfl, Nat.le_of_ble_eq_true (by kernel_rfl), Nat.le_of_ble_eq_true (by kernel_rfl), by simp [gD], rfl⟩
    | 8, h => cases h; exact ⟨4, _, rfl, Nat.le_of_ble_eq_true (by kernel_rfl), Nat.le_of_ble_eq_true (by kernel_rfl), by simp [gD], rfl⟩
    | j + 9, h => cases h
  · exact .inl ⟨⟨_, Tryd.underlying3⟩, rfl⟩
  · exact .inl ⟨⟨_, Tryd.underlying2⟩, rfl⟩
  · exact .inr (.inr (.inl ⟨Tryd.underlying9, rfl⟩))
  · refine .inr (.inr (.inr (.inr ⟨_, Tryd.underlying24, by kernel_rfl, fun j L h => ?_⟩)))
    match j, h with
    | 0, h => cases h; exact ⟨0, _, rfl, Nat.le_of_ble_eq_true (by kernel_rfl), Nat.le_of_ble_eq_true (by kernel_rfl), by simp [gD], rfl⟩
    | 1, h => cases h; exact ⟨1, _, rfl, Nat.le_of_ble_eq_true (by kernel_rfl), Nat.le_of_ble_eq_true (by kernel_rfl), by simp [gD], rfl⟩
    | 2, h => cases h; exact ⟨2, _, rfl, Nat.le_of_ble_eq_true (by kernel_rfl), Nat.le_of_ble_eq_true (by kernel_rfl), by simp [gD], rfl⟩
    | 3, h => cases h; exact ⟨3, _, rfl, Nat.le_of_ble_eq_true (by kernel_rfl), Nat.le_of_ble_eq_true (by kernel_rfl), by simp [gD], rfl⟩
    | 4, h => cases h; exact ⟨4, _, rfl, Nat.le_of_ble_eq_true (by kernel_rfl), Nat.le_of_ble_eq_true (by kernel_rfl), by simp [gD], rfl⟩
    | j + 5, h => cases h
  · exact .inr (.inl ⟨Tryd.underlying4, rfl⟩)
  · exact .inr (.inr (.inr (.inl ⟨_, Tryd.underlying22, rfl, by simp [gD], by kernel_rfl⟩)))
  · exact .inr (.inr (.inr (.inl ⟨_, Tryd.underlying25, rfl, by simp [gD], by kernel_rfl⟩)))

theorem map_of {α β : Type} {f : α → β} {Q : α → Prop} : ∀ {rows : List β}, (∀ r, r ∈ rows → ∃ c, r = f c ∧ Q c) → ∃ l : List α, rows = l.map f ∧ ∀ x, x ∈ l → Q x
  | [], _ => ⟨[], rfl, by simp⟩
  | r :: rows, h => by
    obtain ⟨l, h1, h2⟩ := map_of (rows := rows) (fun r hr => h r (by simp [hr]))
    obtain ⟨c, h3, h4⟩ := h r (by simp)
    refine ⟨c :: l, by rw [h1, h3]; rfl, fun x hx => ?_⟩
    rcases List.mem_cons.1 hx with rfl | hx
    · exact h4
    · exact h2 x hx
abbrev Cell (L : TypeId) (d : D) : Prop := DC Tryd.prog lvD L d
theorem dc_cos {T : TypeId} {d : D} (h : Cell T d) : T = 22 → ∃ l : List Co, d = .sl 5 (cosD l) := by
  induction h with
  | int _ _ _ hu => intro e; subst e; rw [Tryd.underlying22] at hu; cases hu
  | bool _ _ hu => intro e; subst e; rw [Tryd.underlying22] at hu; cases hu
  | string _ _ hu => intro e; subst e; rw [Tryd.underlying22] at hu; cases hu
  | slice T e rows hu hlen hr hk ih =>
    intro e0
    subst e0
    rw [Tryd.underlying22] at hu
    cases hu
    obtain ⟨l, h1, _⟩ := map_of (f := coX) (Q := fun _ => True) (rows := rows) (fun r hr1 => by
      have hl : r.length = 5 := hr r hr1
      match r, hl with
      | [d0, d1, d2, d3, d4], _ =>
        obtain ⟨k, rfl, _⟩ := (hk _ hr1 0 d0 3 rfl rfl).i Tryd.underlying3
        obtain ⟨h, rfl, _⟩ := (hk _ hr1 1 d1 3 rfl rfl).i Tryd.underlying3
        obtain ⟨l, rfl, _⟩ := (hk _ hr1 2 d2 3 rfl rfl).i Tryd.underlying3
        obtain ⟨g, rfl⟩ := (hk _ hr1 3 d3 4 rfl rfl).b Tryd.underlying4
        obtain ⟨ks, rfl⟩ := ih _ hr1 4 d4 22 rfl rfl rfl
        exact ⟨.mk k h l g ks, rfl, trivial⟩)
    subst h1
    exact ⟨l, by rw [cosD_map]; rfl⟩
theorem dc_vas {T : TypeId} {d : D} (h : Cell T d) : T = 25 → ∃ l : List Va, d = .sl 9 (vasD l) ∧ ∀ x, x ∈ l → x.I ∧ x.L := by
  induction h with
  | int _ _ _ hu => intro e; subst e; rw [Tryd.underlying25] at hu; cases hu
  | bool _ _ hu => intro e; subst e; rw [Tryd.underlying25] at hu; cases hu
  | string _ _ hu => intro e; subst e; rw [Tryd.underlying25] at hu; cases hu
  | slice T e rows hu hlen hr hk ih =>
    intro e0
    subst e0
    rw [Tryd.underlying25] at hu
    cases hu
    obtain ⟨l, h1, h2⟩ := map_of (f := vaX) (Q := fun x => x.I ∧ x.L) (rows := rows) (fun r hr1 => by
      have hl : r.length = 9 := hr r hr1
      match r, hl with
      | [d0, d1, d2, d3, d4, d5, d6, d7, d8], _ =>
        obtain ⟨k, rfl, _⟩ := (hk _ hr1 0 d0 3 rfl rfl).i Tryd.underlying3
        obtain ⟨n, rfl, hn⟩ := (hk _ hr1 1 d1 2 rfl rfl).i Tryd.underlying2
        obtain ⟨s, rfl, hs⟩ := (hk _ hr1 2 d2 9 rfl rfl).s Tryd.underlying9
        obtain ⟨ck, rfl, _⟩ := (hk _ hr1 3 d3 3 rfl rfl).i Tryd.underlying3
        obtain ⟨ch, rfl, _⟩ := (hk _ hr1 4 d4 3 rfl rfl).i Tryd.underlying3
        obtain ⟨cl, rfl, _⟩ := (hk _ hr1 5 d5 3 rfl rfl).i Tryd.underlying3
        obtain ⟨cg, rfl⟩ := (hk _ hr1 6 d6 4 rfl rfl).b Tryd.underlying4
        obtain ⟨cks, rfl⟩ := dc_cos (hk _ hr1 7 d7 22 rfl rfl) rfl
        obtain ⟨ks, rfl, hks⟩ := ih _ hr1 8 d8 25 rfl rfl rfl
        exact ⟨.mk k n s (.mk ck ch cl cg cks) ks, rfl, .mk _ _ _ _ _ (lit_i64 hn) fun x hx => (hks x hx).1, .mk _ _ _ _ _ hs fun x hx => (hks x hx).2⟩)
    subst h1
    exact ⟨l, by rw [vasD_map]; rfl, h2⟩
section
variable {H : Type} {enc : TypeId × Value → H} {w : World} {base : Nat} {spare : Nat → Bool} {held : Bool}
theorem open_va {r : Reach} {b0 : Nat} {v : Value} {d : DataW H} {p : List MemPlace} (hv : Value.okWide Tryd.prog w r b0 27 v) (h : DataW.Trod enc Tryd.prog w base spare held 27 v d p) :
    ∃ x : Va, FV (fun p => p.block < w.heap.size) (fun _ => 0) w (.agg (vaX x)) v ∧ x.I ∧ x.L := by
  obtain ⟨ds, hfv, hlen, hk⟩ := open_gs lvs_ok (by simp [gD]) Tryd.underlying27 hv h
  replace hlen : ds.length = 9 := hlen
  match ds, hlen with
  | [d0, d1, d2, d3, d4, d5, d6, d7, d8], _ =>
    obtain ⟨k, rfl, _⟩ := (hk 0 d0 3 rfl rfl).i Tryd.underlying3
    obtain ⟨n, rfl, hn⟩ := (hk 1 d1 2 rfl rfl).i Tryd.underlying2
    obtain ⟨s, rfl, hs⟩ := (hk 2 d2 9 rfl rfl).s Tryd.underlying9
    obtain ⟨ck, rfl, _⟩ := (hk 3 d3 3 rfl rfl).i Tryd.underlying3
    obtain ⟨ch, rfl, _⟩ := (hk 4 d4 3 rfl rfl).i Tryd.underlying3
    obtain ⟨cl, rfl, _⟩ := (hk 5 d5 3 rfl rfl).i Tryd.underlying3
    obtain ⟨cg, rfl⟩ := (hk 6 d6 4 rfl rfl).b Tryd.underlying4
    obtain ⟨cks, rfl⟩ := dc_cos (hk 7 d7 22 rfl rfl) rfl
    obtain ⟨ks, rfl, hks⟩ := dc_vas (hk 8 d8 25 rfl rfl) rfl
    exact ⟨.mk k n s (.mk ck ch cl cg cks) ks, hfv, .mk _ _ _ _ _ (lit_i64 hn) fun x hx => (hks x hx).1, .mk _ _ _ _ _ hs fun x hx => (hks x hx).2⟩
theorem open_vas {r : Reach} {b0 : Nat} {v : Value} {d : DataW H} {p : List MemPlace} (hv : Value.okWide Tryd.prog w r b0 25 v) (h : DataW.Trod enc Tryd.prog w base spare held 25 v d p) :
    ∃ l : List Va, FV (fun p => p.block < w.heap.size) (fun _ => 0) w (.c (.sl 9 (vasD l))) v ∧ (∀ x, x ∈ l → x.I ∧ x.L) := by
  obtain ⟨x, hfv, hk⟩ := open_gr lvs_ok (by simp [gD]) Tryd.underlying25 rfl hv h
  obtain ⟨l, rfl, hl⟩ := dc_vas hk rfl
  exact ⟨l, hfv, hl⟩
end
end Go.Proofs.YtccdnmjijakofaaDoor
