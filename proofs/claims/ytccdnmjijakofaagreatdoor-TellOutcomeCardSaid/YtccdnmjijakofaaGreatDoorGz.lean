/- The types of the arguments of the laws of layer 27: what their cells hold. -/
import Derived.Test.YtccdnmjijakofaaGreatDoorGn
import Derived.Test.YtccdnmjijakofaaGreatDoorTl4
namespace Go.Proofs.YtccdnmjijakofaaGreatDoor
open Go Go.RowKit Go.ChangeShapes Go.WideShapes Go.Deep
set_option maxRecDepth 100000
set_option linter.unusedVariables false

def lvD (T : TypeId) : List TypeId := if T = 24 then [3, 3, 22] else if T = 30 then [3, 2, 9, 3, 3, 3, 4, 25, 28] else if T = 27 then [3, 3, 3, 4, 25] else if T = 35 then [3, 3, 33, 3, 3, 9] else if T = 32 then [3, 3] else if T = 37 then [3, 3, 2, 9, 3, 3, 3, 4, 25, 28, 3, 4, 3, 3, 3] else if T = 57 then [3, 3, 3, 3, 22, 3, 3, 22] else if T = 49 then [3, 3, 3, 3, 33, 3, 3, 9, 3, 3, 22, 38, 3, 3, 2, 9, 3, 3, 3, 4, 25, 28, 3, 4, 3, 3, 3] else [T]
def gD : List TypeId := [24, 3, 22, 30, 2, 9, 27, 4, 25, 28, 35, 32, 33, 37, 38, 57, 49]
theorem lvs_ok : Lvs Tryz.prog lvD (fun T => T ∈ gD) := by
  intro T hT
  simp only [gD, List.mem_cons, List.not_mem_nil, or_false] at hT
  rcases hT with rfl | rfl | rfl | rfl | rfl | rfl | rfl | rfl | rfl | rfl | rfl | rfl | rfl | rfl | rfl | rfl | rfl
  · refine .inr (.inr (.inr (.inr ⟨_, Tryz.underlying24, by kernel_rfl, fun j L h => ?_⟩)))
    match j, h with
    | 0, h => cases h; exact ⟨0, _, rfl, Nat.le_of_ble_eq_true (by kernel_rfl), Nat.le_of_ble_eq_true (by kernel_rfl), by simp [gD], rfl⟩
    | 1, h => cases h; exact ⟨1, _, rfl, Nat.le_of_ble_eq_true (by kernel_rfl), Nat.le_of_ble_eq_true (by kernel_rfl), by simp [gD], rfl⟩
    | 2, h => cases h; exact ⟨2, _, rfl, Nat.le_of_ble_eq_true (by kernel_rfl), Nat.le_of_ble_eq_true (by kernel_rfl), by simp [gD], rfl⟩
    | j + 3, h => cases h
  · exact .inl ⟨⟨_, Tryz.underlying3⟩, rfl⟩
  · exact .inr (.inr (.inr (.inl ⟨_, Tryz.underlying22, rfl, by simp [gD], by kernel_rfl⟩)))
  · refine .inr (.inr (.inr (.inr ⟨_, Tryz.underlying30, by kernel_rfl, fun j L h => ?_⟩)))
    match j, h with
    | 0, h => cases h; exact ⟨0, _, rfl, Nat.le_of_ble_eq_true (by kernel_rfl), Nat.le_of_ble_eq_true (by kernel_rfl), by simp [gD], rfl⟩
    | 1, h => cases h; exact ⟨1, _, rfl, Nat.le_of_ble_eq_true (by kernel_rfl), Nat.le_of_ble_eq_true (by kernel_rfl), by simp [gD], rfl⟩
    | 2, h => cases h; exact ⟨2, _, rfl, Nat.le_of_ble_eq_true (by kernel_rfl), Nat.le_of_ble_eq_true (by kernel_rfl), by simp [gD], rfl⟩
    | 3, h => cases h; exact ⟨3, _, rfl, Nat.le_of_ble_eq_true (by kernel_rfl), Nat.le_of_ble_eq_true (by kernel_rfl), by simp [gD], rfl⟩
    | 4, h => cases h; exact ⟨3, _, rfl, Nat.le_of_ble_eq_true (by kernel_rfl), Nat.le_of_ble_eq_true (by kernel_rfl), by simp [gD], rfl⟩
    | 5, h => cases h; exact ⟨3, _, rfl, Nat.le_of_ble_eq_true (by kernel_rfl), Nat.le_of_ble_eq_true (by kernel_rfl), by simp [gD], rfl⟩
    | 6, h => cases h; exact ⟨3, _, rfl, Nat.le_of_ble_eq_true (by kernel_rfl), Nat.le_of_ble_eq_true (by kernel_rfl), by simp [gD], rfl⟩
    | 7, h => cases h; exact ⟨3, _, rfl, Nat.le_of_ble_eq_true (by kernel_rfl), Nat.le_of_ble_eq_true (by kernel_rfl), by simp [gD], rfl⟩
    | 8, h => cases h; exact ⟨4, _, rfl, Nat.le_of_ble_eq_true (by kernel_rfl), Nat.le_of_ble_eq_true (by kernel_rfl), by simp [gD], rfl⟩
    | j + 9, h => cases h
  · exact .inl ⟨⟨_, Tryz.underlying2⟩, rfl⟩
  · exact .inr (.inr (.inl ⟨Tryz.underlying9, rfl⟩))
  · refine .inr (.inr (.inr (.inr ⟨_, Tryz.underlying27, by kernel_rfl, fun j L h => ?_⟩)))
    match j, h with
    | 0, h => cases h; exact ⟨0, _, rfl, Nat.le_of_ble_eq_true (by kernel_rfl), Nat.le_of_ble_eq_true (by kernel_rfl), by simp [gD], rfl⟩
    | 1, h => cases h; exact ⟨1, _, rfl, Nat.le_of_ble_eq_true (by kernel_rfl), Nat.le_of_ble_eq_true (by kernel_rfl), by simp [gD], rfl⟩
    | 2, h => cases h; exact ⟨2, _, rfl, Nat.le_of_ble_eq_true (by kernel_rfl), Nat.le_of_ble_eq_true (by kernel_rfl), by simp [gD], rfl⟩
    | 3, h => cases h; exact ⟨3, _, rfl, Nat.le_of_ble_eq_true (by kernel_rfl), Nat.le_of_ble_eq_true (by kernel_rfl), by simp [gD], rfl⟩
    | 4, h => cases h; exact ⟨4, _, rfl, Nat.le_of_ble_eq_true (by kernel_rfl), Nat.le_of_ble_eq_true (by kernel_rfl), by simp [gD], rfl⟩
    | j + 5, h => cases h
  · exact .inr (.inl ⟨Tryz.underlying4, rfl⟩)
  · exact .inr (.inr (.inr (.inl ⟨_, Tryz.underlying25, rfl, by simp [gD], by kernel_rfl⟩)))
  · exact .inr (.inr (.inr (.inl ⟨_, Tryz.underlying28, rfl, by simp [gD], by kernel_rfl⟩)))
  · refine .inr (.inr (.inr (.inr ⟨_, Tryz.underlying35, by kernel_rfl, fun j L h => ?_⟩)))
    match j, h with
    | 0, h => cases h; exact ⟨0, _, rfl, Nat.le_of_ble_eq_true (by kernel_rfl), Nat.le_of_ble_eq_true (by kernel_rfl), by simp [gD], rfl⟩
    | 1, h => cases h; exact ⟨0, _, rfl, Nat.le_of_ble_eq_true (by kernel_rfl), Nat.le_of_ble_eq_true (by kernel_rfl), by simp [gD], rfl⟩
    | 2, h => cases h; exact ⟨1, _, rfl, Nat.le_of_ble_eq_true (by kernel_rfl), Nat.le_of_ble_eq_true (by kernel_rfl), by simp [gD], rfl⟩
    | 3, h => cases h; exact ⟨2, _, rfl, Nat.le_of_ble_eq_true (by kernel_rfl), Nat.le_of_ble_eq_true (by kernel_rfl), by simp [gD], rfl⟩
    | 4, h => cases h; exact ⟨3, _, rfl, Nat.le_of_ble_eq_true (by kernel_rfl), Nat.le_of_ble_eq_true (by kernel_rfl), by simp [gD], rfl⟩
    | 5, h => cases h; exact ⟨4, _, rfl, Nat.le_of_ble_eq_true (by kernel_rfl), Nat.le_of_ble_eq_true (by kernel_rfl), by simp [gD], rfl⟩
    | j + 6, h => cases h
  · refine .inr (.inr (.inr (.inr ⟨_, Tryz.underlying32, by kernel_rfl, fun j L h => ?_⟩)))
    match j, h with
    | 0, h => cases h; exact ⟨0, _, rfl, Nat.le_of_ble_eq_true (by kernel_rfl), Nat.le_of_ble_eq_true (by kernel_rfl), by simp [gD], rfl⟩
    | 1, h => cases h; exact ⟨1, _, rfl, Nat.le_of_ble_eq_true (by kernel_rfl), Nat.le_of_ble_eq_true (by kernel_rfl), by simp [gD], rfl⟩
    | j + 2, h => cases h
  · exact .inl ⟨⟨_, Tryz.underlying33⟩, rfl⟩
  · refine .inr (.inr (.inr (.inr ⟨_, Tryz.underlying37, by kernel_rfl, fun j L h => ?_⟩)))
    match j, h with
    | 0, h => cases h; exact ⟨0, _, rfl, Nat.le_of_ble_eq_true (by kernel_rfl), Nat.le_of_ble_eq_true (by kernel_rfl), by simp [gD], rfl⟩
    | 1, h => cases h; exact ⟨1, _, rfl, Nat.le_of_ble_eq_true (by kernel_rfl), Nat.le_of_ble_eq_true (by kernel_rfl), by simp [gD], rfl⟩
    | 2, h => cases h; exact ⟨1, _, rfl, Nat.le_of_ble_eq_true (by kernel_rfl), Nat.le_of_ble_eq_true (by kernel_rfl), by simp [gD], rfl⟩
    | 3, h => cases h; exact ⟨1, _, rfl, Nat.le_of_ble_eq_true (by kernel_rfl), Nat.le_of_ble_eq_true (by kernel_rfl), by simp [gD], rfl⟩
    | 4, h => cases h; exact ⟨1, _, rfl, Nat.le_of_ble_eq_true (by kernel_rfl), Nat.le_of_ble_eq_true (by kernel_rfl), by simp [gD], rfl⟩
    | 5, h => cases h; exact ⟨1, _, rfl, Nat.le_of_ble_eq_true (by kernel_rfl), Nat.le_of_ble_eq_true (by kernel_rfl), by simp [gD], rfl⟩
    | 6, h => cases h; exact ⟨1, _, rfl, Nat.le_of_ble_eq_true (by kernel_rfl), Nat.le_of_ble_eq_true (by kernel_rfl), by simp [gD], rfl⟩
    | 7, h => cases h; exact ⟨1, _, rfl, Nat.le_of_ble_eq_true (by kernel_rfl), Nat.le_of_ble_eq_true (by kernel_rfl), by simp [gD], rfl⟩
    | 8, h => cases h; exact ⟨1, _, rfl, Nat.le_of_ble_eq_true (by kernel_rfl), Nat.le_of_ble_eq_true (by kernel_rfl), by simp [gD], rfl⟩
    | 9, h => cases h; exact ⟨1, _, rfl, Nat.le_of_ble_eq_true (by kernel_rfl), Nat.le_of_ble_eq_true (by kernel_rfl), by simp [gD], rfl⟩
    | 10, h => cases h; exact ⟨2, _, rfl, Nat.le_of_ble_eq_true (by kernel_rfl), Nat.le_of_ble_eq_true (by kernel_rfl), by simp [gD], rfl⟩
    | 11, h => cases h; exact ⟨3, _, rfl, Nat.le_of_ble_eq_true (by kernel_rfl), Nat.le_of_ble_eq_true (by kernel_rfl), by simp [gD], rfl⟩
    | 12, h => cases h; exact ⟨4, _, rfl, Nat.le_of_ble_eq_true (by kernel_rfl), Nat.le_of_ble_eq_true (by kernel_rfl), by simp [gD], rfl⟩
    | 13, h => cases h; exact ⟨4, _, rfl, Nat.le_of_ble_eq_true (by kernel_rfl), Nat.le_of_ble_eq_true (by kernel_rfl), by simp [gD], rfl⟩
    | 14, h => cases h; exact ⟨5, _, rfl, Nat.le_of_ble_eq_true (by kernel_rfl), Nat.le_of_ble_eq_true (by kernel_rfl), by simp [gD], rfl⟩
    | j + 15, h => cases h
  · exact .inr (.inr (.inr (.inl ⟨_, Tryz.underlying38, rfl, by simp [gD], by kernel_rfl⟩)))
  · refine .inr (.inr (.inr (.inr ⟨_, Tryz.underlying57, by kernel_rfl, fun j L h => ?_⟩)))
    match j, h with
    | 0, h => cases h; exact ⟨0, _, rfl, Nat.le_of_ble_eq_true (by kernel_rfl), Nat.le_of_ble_eq_true (by kernel_rfl), by simp [gD], rfl⟩
    | 1, h => cases h; exact ⟨0, _, rfl, Nat.le_of_ble_eq_true (by kernel_rfl), Nat.le_of_ble_eq_true (by kernel_rfl), by simp [gD], rfl⟩
    | 2, h => cases h; exact ⟨1, _, rfl, Nat.le_of_ble_eq_true (by kernel_rfl), Nat.le_of_ble_eq_true (by kernel_rfl), by simp [gD], rfl⟩
    | 3, h => cases h; exact ⟨1, _, rfl, Nat.le_of_ble_eq_true (by kernel_rfl), Nat.le_of_ble_eq_true (by kernel_rfl), by simp [gD], rfl⟩
    | 4, h => cases h; exact ⟨1, _, rfl, Nat.le_of_ble_eq_true (by kernel_rfl), Nat.le_of_ble_eq_true (by kernel_rfl), by simp [gD], rfl⟩
    | 5, h => cases h; exact ⟨2, _, rfl, Nat.le_of_ble_eq_true (by kernel_rfl), Nat.le_of_ble_eq_true (by kernel_rfl), by simp [gD], rfl⟩
    | 6, h => cases h; exact ⟨2, _, rfl, Nat.le_of_ble_eq_true (by kernel_rfl), Nat.le_of_ble_eq_true (by kernel_rfl), by simp [gD], rfl⟩
    | 7, h => cases h; exact ⟨2, _, rfl, Nat.le_of_ble_eq_true (by kernel_rfl), Nat.le_of_ble_eq_true (by kernel_rfl), by simp [gD], rfl⟩
    | j + 8, h => cases h
  · refine .inr (.inr (.inr (.inr ⟨_, Tryz.underlying49, by kernel_rfl, fun j L h => ?_⟩)))
    match j, h with
    | 0, h => cases h; exact ⟨0, _, rfl, Nat.le_of_ble_eq_true (by kernel_rfl), Nat.le_of_ble_eq_true (by kernel_rfl), by simp [gD], rfl⟩
    | 1, h => cases h; exact ⟨1, _, rfl, Nat.le_of_ble_eq_true (by kernel_rfl), Nat.le_of_ble_eq_true (by kernel_rfl), by simp [gD], rfl⟩
    | 2, h => cases h; exact ⟨2, _, rfl, Nat.le_of_ble_eq_true (by kernel_rfl), Nat.le_of_ble_eq_true (by kernel_rfl), by simp [gD], rfl⟩
    | 3, h => cases h; exact ⟨2, _, rfl, Nat.le_of_ble_eq_true (by kernel_rfl), Nat.le_of_ble_eq_true (by kernel_rfl), by simp [gD], rfl⟩
    | 4, h => cases h; exact ⟨2, _, rfl, Nat.le_of_ble_eq_true (by kernel_rfl), Nat.le_of_ble_eq_true (by kernel_rfl), by simp [gD], rfl⟩
    | 5, h => cases h; exact ⟨2, _, rfl, Nat.le_of_ble_eq_true (by kernel_rfl), Nat.le_of_ble_eq_true (by kernel_rfl), by simp [gD], rfl⟩
    | 6, h => cases h; exact ⟨2, _, rfl, Nat.le_of_ble_eq_true (by kernel_rfl), Nat.le_of_ble_eq_true (by kernel_rfl), by simp [gD], rfl⟩
    | 7, h => cases h; exact ⟨2, _, rfl, Nat.le_of_ble_eq_true (by kernel_rfl), Nat.le_of_ble_eq_true (by kernel_rfl), by simp [gD], rfl⟩
    | 8, h => cases h; exact ⟨3, _, rfl, Nat.le_of_ble_eq_true (by kernel_rfl), Nat.le_of_ble_eq_true (by kernel_rfl), by simp [gD], rfl⟩
    | 9, h => cases h; exact ⟨3, _, rfl, Nat.le_of_ble_eq_true (by kernel_rfl), Nat.le_of_ble_eq_true (by kernel_rfl), by simp [gD], rfl⟩
    | 10, h => cases h; exact ⟨3, _, rfl, Nat.le_of_ble_eq_true (by kernel_rfl), Nat.le_of_ble_eq_true (by kernel_rfl), by simp [gD], rfl⟩
    | 11, h => cases h; exact ⟨4, _, rfl, Nat.le_of_ble_eq_true (by kernel_rfl), Nat.le_of_ble_eq_true (by kernel_rfl), by simp [gD], rfl⟩
    | 12, h => cases h; exact ⟨5, _, rfl, Nat.le_of_ble_eq_true (by kernel_rfl), Nat.le_of_ble_eq_true (by kernel_rfl), by simp [gD], rfl⟩
    | 13, h => cases h; exact ⟨5, _, rfl, Nat.le_of_ble_eq_true (by kernel_rfl), Nat.le_of_ble_eq_true (by kernel_rfl), by simp [gD], rfl⟩
    | 14, h => cases h; exact ⟨5, _, rfl, Nat.le_of_ble_eq_true (by kernel_rfl), Nat.le_of_ble_eq_true (by kernel_rfl), by simp [gD], rfl⟩
    | 15, h => cases h; exact ⟨5, _, rfl, Nat.le_of_ble_eq_true (by kernel_rfl), Nat.le_of_ble_eq_true (by kernel_rfl), by simp [gD], rfl⟩
    | 16, h => cases h; exact ⟨5, _, rfl, Nat.le_of_ble_eq_true (by kernel_rfl), Nat.le_of_ble_eq_true (by kernel_rfl), by simp [gD], rfl⟩
    | 17, h => cases h; exact ⟨5, _, rfl, Nat.le_of_ble_eq_true (by kernel_rfl), Nat.le_of_ble_eq_true (by kernel_rfl), by simp [gD], rfl⟩
    | 18, h => cases h; exact ⟨5, _, rfl, Nat.le_of_ble_eq_true (by kernel_rfl), Nat.le_of_ble_eq_true (by kernel_rfl), by simp [gD], rfl⟩
    | 19, h => cases h; exact ⟨5, _, rfl, Nat.le_of_ble_eq_true (by kernel_rfl), Nat.le_of_ble_eq_true (by kernel_rfl), by simp [gD], rfl⟩
    | 20, h => cases h; exact ⟨5, _, rfl, Nat.le_of_ble_eq_true (by kernel_rfl), Nat.le_of_ble_eq_true (by kernel_rfl), by simp [gD], rfl⟩
    | 21, h => cases h; exact ⟨5, _, rfl, Nat.le_of_ble_eq_true (by kernel_rfl), Nat.le_of_ble_eq_true (by kernel_rfl), by simp [gD], rfl⟩
    | 22, h => cases h; exact ⟨5, _, rfl, Nat.le_of_ble_eq_true (by kernel_rfl), Nat.le_of_ble_eq_true (by kernel_rfl), by simp [gD], rfl⟩
    | 23, h => cases h; exact ⟨5, _, rfl, Nat.le_of_ble_eq_true (by kernel_rfl), Nat.le_of_ble_eq_true (by kernel_rfl), by simp [gD], rfl⟩
    | 24, h => cases h; exact ⟨5, _, rfl, Nat.le_of_ble_eq_true (by kernel_rfl), Nat.le_of_ble_eq_true (by kernel_rfl), by simp [gD], rfl⟩
    | 25, h => cases h; exact ⟨5, _, rfl, Nat.le_of_ble_eq_true (by kernel_rfl), Nat.le_of_ble_eq_true (by kernel_rfl), by simp [gD], rfl⟩
    | 26, h => cases h; exact ⟨5, _, rfl, Nat.le_of_ble_eq_true (by kernel_rfl), Nat.le_of_ble_eq_true (by kernel_rfl), by simp [gD], rfl⟩
    | j + 27, h => cases h

theorem map_of {α β : Type} {f : α → β} {Q : α → Prop} : ∀ {rows : List β}, (∀ r, r ∈ rows → ∃ c, r = f c ∧ Q c) → ∃ l : List α, rows = l.map f ∧ ∀ x, x ∈ l → Q x
  | [], _ => ⟨[], rfl, by simp⟩
  | r :: rows, h => by
    obtain ⟨l, h1, h2⟩ := map_of (rows := rows) (fun r hr => h r (by simp [hr]))
    obtain ⟨c, h3, h4⟩ := h r (by simp)
    refine ⟨c :: l, by rw [h1, h3]; rfl, fun x hx => ?_⟩
    rcases List.mem_cons.1 hx with rfl | hx
    · exact h4
    · exact h2 x hx
abbrev Cell (L : TypeId) (d : D) : Prop := DC Tryz.prog lvD L d
theorem dc_cos {T : TypeId} {d : D} (h : Cell T d) : T = 25 → ∃ l : List Co, d = .sl 5 (cosD l) := by
  induction h with
  | int _ _ _ hu => intro e; subst e; rw [Tryz.underlying25] at hu; cases hu
  | bool _ _ hu => intro e; subst e; rw [Tryz.underlying25] at hu; cases hu
  | string _ _ hu => intro e; subst e; rw [Tryz.underlying25] at hu; cases hu
  | slice T e rows hu hlen hr hk ih =>
    intro e0
    subst e0
    rw [Tryz.underlying25] at hu
    cases hu
    obtain ⟨l, h1, _⟩ := map_of (f := coX) (Q := fun _ => True) (rows := rows) (fun r hr1 => by
      have hl : r.length = 5 := hr r hr1
      match r, hl with
      | [d0, d1, d2, d3, d4], _ =>
        obtain ⟨k, rfl, _⟩ := (hk _ hr1 0 d0 3 rfl rfl).i Tryz.underlying3
        obtain ⟨h, rfl, _⟩ := (hk _ hr1 1 d1 3 rfl rfl).i Tryz.underlying3
        obtain ⟨l, rfl, _⟩ := (hk _ hr1 2 d2 3 rfl rfl).i Tryz.underlying3
        obtain ⟨g, rfl⟩ := (hk _ hr1 3 d3 4 rfl rfl).b Tryz.underlying4
        obtain ⟨ks, rfl⟩ := ih _ hr1 4 d4 25 rfl rfl rfl
        exact ⟨.mk k h l g ks, rfl, trivial⟩)
    subst h1
    exact ⟨l, by rw [cosD_map]; rfl⟩
theorem dc_vas {T : TypeId} {d : D} (h : Cell T d) : T = 28 → ∃ l : List Va, d = .sl 9 (vasD l) ∧ ∀ x, x ∈ l → x.I ∧ x.L := by
  induction h with
  | int _ _ _ hu => intro e; subst e; rw [Tryz.underlying28] at hu; cases hu
  | bool _ _ hu => intro e; subst e; rw [Tryz.underlying28] at hu; cases hu
  | string _ _ hu => intro e; subst e; rw [Tryz.underlying28] at hu; cases hu
  | slice T e rows hu hlen hr hk ih =>
    intro e0
    subst e0
    rw [Tryz.underlying28] at hu
    cases hu
    obtain ⟨l, h1, h2⟩ := map_of (f := vaX) (Q := fun x => x.I ∧ x.L) (rows := rows) (fun r hr1 => by
      have hl : r.length = 9 := hr r hr1
      match r, hl with
      | [d0, d1, d2, d3, d4, d5, d6, d7, d8], _ =>
        obtain ⟨k, rfl, _⟩ := (hk _ hr1 0 d0 3 rfl rfl).i Tryz.underlying3
        obtain ⟨n, rfl, hn⟩ := (hk _ hr1 1 d1 2 rfl rfl).i Tryz.underlying2
        obtain ⟨s, rfl, hs⟩ := (hk _ hr1 2 d2 9 rfl rfl).s Tryz.underlying9
        obtain ⟨ck, rfl, _⟩ := (hk _ hr1 3 d3 3 rfl rfl).i Tryz.underlying3
        obtain ⟨ch, rfl, _⟩ := (hk _ hr1 4 d4 3 rfl rfl).i Tryz.underlying3
        obtain ⟨cl, rfl, _⟩ := (hk _ hr1 5 d5 3 rfl rfl).i Tryz.underlying3
        obtain ⟨cg, rfl⟩ := (hk _ hr1 6 d6 4 rfl rfl).b Tryz.underlying4
        obtain ⟨cks, rfl⟩ := dc_cos (hk _ hr1 7 d7 25 rfl rfl) rfl
        obtain ⟨ks, rfl, hks⟩ := ih _ hr1 8 d8 28 rfl rfl rfl
        exact ⟨.mk k n s (.mk ck ch cl cg cks) ks, rfl, .mk _ _ _ _ _ (lit_i64 hn) fun x hx => (hks x hx).1, .mk _ _ _ _ _ hs fun x hx => (hks x hx).2⟩)
    subst h1
    exact ⟨l, by rw [vasD_map]; rfl, h2⟩
theorem dc_tys {T : TypeId} {d : D} (h : Cell T d) : T = 22 → ∃ l : List Ty, d = .sl 3 (tysD l) := by
  induction h with
  | int _ _ _ hu => intro e; subst e; rw [Tryz.underlying22] at hu; cases hu
  | bool _ _ hu => intro e; subst e; rw [Tryz.underlying22] at hu; cases hu
  | string _ _ hu => intro e; subst e; rw [Tryz.underlying22] at hu; cases hu
  | slice T e rows hu hlen hr hk ih =>
    intro e0
    subst e0
    rw [Tryz.underlying22] at hu
    cases hu
    obtain ⟨l, h1, _⟩ := map_of (f := tyE) (Q := fun _ => True) (rows := rows) (fun r hr1 => by
      have hl : r.length = 3 := hr r hr1
      match r, hl with
      | [d0, d1, d2], _ =>
        obtain ⟨k, rfl, _⟩ := (hk _ hr1 0 d0 3 rfl rfl).i Tryz.underlying3
        obtain ⟨n, rfl, _⟩ := (hk _ hr1 1 d1 3 rfl rfl).i Tryz.underlying3
        obtain ⟨ks, rfl⟩ := ih _ hr1 2 d2 22 rfl rfl rfl
        exact ⟨.mk k n ks, rfl, trivial⟩)
    subst h1
    exact ⟨l, by rw [tysD_map, List.map_congr_left fun t _ => tyD_eq t]; rfl⟩
theorem dc_lbs {T : TypeId} {d : D} (h : Cell T d) : T = 38 → ∃ l : List Lb, d = .sl 8 (lbR l) ∧ ∀ x, x ∈ l → x.I := by
  induction h with
  | int _ _ _ hu => intro e; subst e; rw [Tryz.underlying38] at hu; cases hu
  | bool _ _ hu => intro e; subst e; rw [Tryz.underlying38] at hu; cases hu
  | string _ _ hu => intro e; subst e; rw [Tryz.underlying38] at hu; cases hu
  | slice T e rows hu hlen hr hk ih =>
    intro e0
    subst e0
    rw [Tryz.underlying38] at hu
    cases hu
    obtain ⟨l, h1, h2⟩ := map_of (f := lbX) (Q := Lb.I) (rows := rows) (fun r hr1 => by
      have hl : r.length = 8 := hr r hr1
      match r, hl with
      | [d0, d1, d2, d3, d4, d5, d6, d7], _ =>
        obtain ⟨a, rfl, ha⟩ := (hk _ hr1 0 d0 3 rfl rfl).i Tryz.underlying3
        obtain ⟨b, rfl, hb⟩ := (hk _ hr1 1 d1 3 rfl rfl).i Tryz.underlying3
        obtain ⟨fk, rfl, _⟩ := (hk _ hr1 2 d2 3 rfl rfl).i Tryz.underlying3
        obtain ⟨fn, rfl, _⟩ := (hk _ hr1 3 d3 3 rfl rfl).i Tryz.underlying3
        obtain ⟨fs, rfl⟩ := dc_tys (hk _ hr1 4 d4 22 rfl rfl) rfl
        obtain ⟨tk, rfl, _⟩ := (hk _ hr1 5 d5 3 rfl rfl).i Tryz.underlying3
        obtain ⟨tn, rfl, _⟩ := (hk _ hr1 6 d6 3 rfl rfl).i Tryz.underlying3
        obtain ⟨ts, rfl⟩ := dc_tys (hk _ hr1 7 d7 22 rfl rfl) rfl
        exact ⟨⟨a, b, .mk fk fn fs, .mk tk tn ts⟩, rfl, lit_i64 ha, lit_i64 hb⟩)
    subst h1
    exact ⟨l, rfl, h2⟩
section
variable {H : Type} {enc : TypeId × Value → H} {w : World} {base : Nat} {spare : Nat → Bool} {held : Bool}
theorem open_va {r : Reach} {b0 : Nat} {v : Value} {d : DataW H} {p : List MemPlace} (hv : Value.okWide Tryz.prog w r b0 30 v) (h : DataW.Trod enc Tryz.prog w base spare held 30 v d p) :
    ∃ x : Va, FV (fun p => p.block < w.heap.size) (fun _ => 0) w (.agg (vaX x)) v ∧ x.I ∧ x.L := by
  obtain ⟨ds, hfv, hlen, hk⟩ := open_gs lvs_ok (by simp [gD]) Tryz.underlying30 hv h
  replace hlen : ds.length = 9 := hlen
  match ds, hlen with
  | [d0, d1, d2, d3, d4, d5, d6, d7, d8], _ =>
    obtain ⟨k, rfl, _⟩ := (hk 0 d0 3 rfl rfl).i Tryz.underlying3
    obtain ⟨n, rfl, hn⟩ := (hk 1 d1 2 rfl rfl).i Tryz.underlying2
    obtain ⟨s, rfl, hs⟩ := (hk 2 d2 9 rfl rfl).s Tryz.underlying9
    obtain ⟨ck, rfl, _⟩ := (hk 3 d3 3 rfl rfl).i Tryz.underlying3
    obtain ⟨ch, rfl, _⟩ := (hk 4 d4 3 rfl rfl).i Tryz.underlying3
    obtain ⟨cl, rfl, _⟩ := (hk 5 d5 3 rfl rfl).i Tryz.underlying3
    obtain ⟨cg, rfl⟩ := (hk 6 d6 4 rfl rfl).b Tryz.underlying4
    obtain ⟨cks, rfl⟩ := dc_cos (hk 7 d7 25 rfl rfl) rfl
    obtain ⟨ks, rfl, hks⟩ := dc_vas (hk 8 d8 28 rfl rfl) rfl
    exact ⟨.mk k n s (.mk ck ch cl cg cks) ks, hfv, .mk _ _ _ _ _ (lit_i64 hn) fun x hx => (hks x hx).1, .mk _ _ _ _ _ hs fun x hx => (hks x hx).2⟩
theorem open_tyG {r : Reach} {b0 : Nat} {v : Value} {d : DataW H} {p : List MemPlace} (hv : Value.okWide Tryz.prog w r b0 24 v) (h : DataW.Trod enc Tryz.prog w base spare held 24 v d p) :
    ∃ t : Ty, FV (fun p => p.block < w.heap.size) (fun _ => 0) w (.agg (tyE t)) v := by
  obtain ⟨ds, hfv, hlen, hk⟩ := open_gs lvs_ok (by simp [gD]) Tryz.underlying24 hv h
  replace hlen : ds.length = 3 := hlen
  match ds, hlen with
  | [d0, d1, d2], _ =>
    obtain ⟨tk, rfl, _⟩ := (hk 0 d0 3 rfl rfl).i Tryz.underlying3
    obtain ⟨tn, rfl, _⟩ := (hk 1 d1 3 rfl rfl).i Tryz.underlying3
    obtain ⟨ts, rfl⟩ := dc_tys (hk 2 d2 22 rfl rfl) rfl
    exact ⟨.mk tk tn ts, hfv⟩
theorem open_bad {r : Reach} {b0 : Nat} {v : Value} {d : DataW H} {p : List MemPlace} (hv : Value.okWide Tryz.prog w r b0 35 v) (h : DataW.Trod enc Tryz.prog w base spare held 35 v d p) :
    ∃ (ba bb y bl br : Int) (nm : List UInt8), FV (fun p => p.block < w.heap.size) (fun _ => 0) w (.agg [.lit (.int .i64 ba), .lit (.int .i64 bb), .lit (.int .i64 y), .lit (.int .i64 bl), .lit (.int .i64 br), .lit (str nm)]) v ∧ I64 ba ∧ I64 bb ∧ nm.length ≤ 9223372036854775807 := by
  obtain ⟨ds, hfv, hlen, hk⟩ := open_gs lvs_ok (by simp [gD]) Tryz.underlying35 hv h
  replace hlen : ds.length = 6 := hlen
  match ds, hlen with
  | [d0, d1, d2, d3, d4, d5], _ =>
    obtain ⟨ba, rfl, hba⟩ := (hk 0 d0 3 rfl rfl).i Tryz.underlying3
    obtain ⟨bb, rfl, hbb⟩ := (hk 1 d1 3 rfl rfl).i Tryz.underlying3
    obtain ⟨y, rfl, _⟩ := (hk 2 d2 33 rfl rfl).i Tryz.underlying33
    obtain ⟨bl, rfl, _⟩ := (hk 3 d3 3 rfl rfl).i Tryz.underlying3
    obtain ⟨br, rfl, _⟩ := (hk 4 d4 3 rfl rfl).i Tryz.underlying3
    obtain ⟨nm, rfl, hnm⟩ := (hk 5 d5 9 rfl rfl).s Tryz.underlying9
    exact ⟨ba, bb, y, bl, br, nm, hfv, lit_i64 hba, lit_i64 hbb, hnm⟩
theorem open_res {r : Reach} {b0 : Nat} {v : Value} {d : DataW H} {p : List MemPlace} (hv : Value.okWide Tryz.prog w r b0 37 v) (h : DataW.Trod enc Tryz.prog w base spare held 37 v d p) :
    ∃ (k : Int) (rv : Va) (n : Int) (g : Bool) (a b st : Int), FV (fun p => p.block < w.heap.size) (fun _ => 0) w (.agg [.lit (.int .i64 k), .lit (.int .i64 rv.kind), .lit (.int .i64 rv.num), .lit (str rv.str), .lit (.int .i64 rv.coe.kind), .lit (.int .i64 rv.coe.head), .lit (.int .i64 rv.coe.lab), .lit (.bool rv.coe.neg), .sl 5 (cosD rv.coe.kids), .sl 9 (vasD rv.kids), .lit (.int .i64 n), .lit (.bool g), .lit (.int .i64 a), .lit (.int .i64 b), .lit (.int .i64 st)]) v ∧ rv.I ∧ rv.L ∧ I64 n ∧ I64 a ∧ I64 b := by
  obtain ⟨ds, hfv, hlen, hk⟩ := open_gs lvs_ok (by simp [gD]) Tryz.underlying37 hv h
  replace hlen : ds.length = 15 := hlen
  match ds, hlen with
  | [d0, d1, d2, d3, d4, d5, d6, d7, d8, d9, d10, d11, d12, d13, d14], _ =>
    obtain ⟨rk, rfl, _⟩ := (hk 0 d0 3 rfl rfl).i Tryz.underlying3
    obtain ⟨vk, rfl, _⟩ := (hk 1 d1 3 rfl rfl).i Tryz.underlying3
    obtain ⟨vn, rfl, vhn⟩ := (hk 2 d2 2 rfl rfl).i Tryz.underlying2
    obtain ⟨vs, rfl, vhs⟩ := (hk 3 d3 9 rfl rfl).s Tryz.underlying9
    obtain ⟨vck, rfl, _⟩ := (hk 4 d4 3 rfl rfl).i Tryz.underlying3
    obtain ⟨vch, rfl, _⟩ := (hk 5 d5 3 rfl rfl).i Tryz.underlying3
    obtain ⟨vcl, rfl, _⟩ := (hk 6 d6 3 rfl rfl).i Tryz.underlying3
    obtain ⟨vcg, rfl⟩ := (hk 7 d7 4 rfl rfl).b Tryz.underlying4
    obtain ⟨vcks, rfl⟩ := dc_cos (hk 8 d8 25 rfl rfl) rfl
    obtain ⟨vks, rfl, vhks⟩ := dc_vas (hk 9 d9 28 rfl rfl) rfl
    obtain ⟨n, rfl, hn⟩ := (hk 10 d10 3 rfl rfl).i Tryz.underlying3
    obtain ⟨g, rfl⟩ := (hk 11 d11 4 rfl rfl).b Tryz.underlying4
    obtain ⟨a, rfl, ha⟩ := (hk 12 d12 3 rfl rfl).i Tryz.underlying3
    obtain ⟨b, rfl, hb⟩ := (hk 13 d13 3 rfl rfl).i Tryz.underlying3
    obtain ⟨st, rfl, _⟩ := (hk 14 d14 3 rfl rfl).i Tryz.underlying3
    exact ⟨rk, (.mk vk vn vs (.mk vck vch vcl vcg vcks) vks), n, g, a, b, st, hfv, .mk _ _ _ _ _ (lit_i64 vhn) fun x hx => (vhks x hx).1, .mk _ _ _ _ _ vhs fun x hx => (vhks x hx).2, lit_i64 hn, lit_i64 ha, lit_i64 hb⟩
theorem open_lbs {r : Reach} {b0 : Nat} {v : Value} {d : DataW H} {p : List MemPlace} (hv : Value.okWide Tryz.prog w r b0 38 v) (h : DataW.Trod enc Tryz.prog w base spare held 38 v d p) :
    ∃ l : List Lb, FV (fun p => p.block < w.heap.size) (fun _ => 0) w (.c (.sl 8 (lbR l))) v ∧ (∀ x, x ∈ l → x.I) := by
  obtain ⟨x, hfv, hk⟩ := open_gr lvs_ok (by simp [gD]) Tryz.underlying38 rfl hv h
  obtain ⟨l, rfl, hl⟩ := dc_lbs hk rfl
  exact ⟨l, hfv, hl⟩
theorem open_oc {r : Reach} {b0 : Nat} {v : Value} {d : DataW H} {p : List MemPlace} (hv : Value.okWide Tryz.prog w r b0 49 v) (h : DataW.Trod enc Tryz.prog w base spare held 49 v d p) :
    ∃ (ok at0 ba bb y bl br : Int) (nm : List UInt8) (t : Ty) (l : List Lb) (k : Int) (rv : Va) (n : Int) (g : Bool) (a b st : Int), FV (fun p => p.block < w.heap.size) (fun _ => 0) w (.agg [.lit (.int .i64 ok), .lit (.int .i64 at0), .lit (.int .i64 ba), .lit (.int .i64 bb), .lit (.int .i64 y), .lit (.int .i64 bl), .lit (.int .i64 br), .lit (str nm), .lit (.int .i64 t.kind), .lit (.int .i64 t.num), .sl 3 (tysD t.kids), .sl 8 (lbR l), .lit (.int .i64 k), .lit (.int .i64 rv.kind), .lit (.int .i64 rv.num), .lit (str rv.str), .lit (.int .i64 rv.coe.kind), .lit (.int .i64 rv.coe.head), .lit (.int .i64 rv.coe.lab), .lit (.bool rv.coe.neg), .sl 5 (cosD rv.coe.kids), .sl 9 (vasD rv.kids), .lit (.int .i64 n), .lit (.bool g), .lit (.int .i64 a), .lit (.int .i64 b), .lit (.int .i64 st)]) v ∧ I64 at0 ∧ I64 ba ∧ I64 bb ∧ nm.length ≤ 9223372036854775807 ∧ (∀ x, x ∈ l → x.I) ∧ rv.I ∧ rv.L ∧ I64 n ∧ I64 a ∧ I64 b := by
  obtain ⟨ds, hfv, hlen, hk⟩ := open_gs lvs_ok (by simp [gD]) Tryz.underlying49 hv h
  replace hlen : ds.length = 27 := hlen
  match ds, hlen with
  | [d0, d1, d2, d3, d4, d5, d6, d7, d8, d9, d10, d11, d12, d13, d14, d15, d16, d17, d18, d19, d20, d21, d22, d23, d24, d25, d26], _ =>
    obtain ⟨ok, rfl, _⟩ := (hk 0 d0 3 rfl rfl).i Tryz.underlying3
    obtain ⟨at0, rfl, hat⟩ := (hk 1 d1 3 rfl rfl).i Tryz.underlying3
    obtain ⟨ba, rfl, hba⟩ := (hk 2 d2 3 rfl rfl).i Tryz.underlying3
    obtain ⟨bb, rfl, hbb⟩ := (hk 3 d3 3 rfl rfl).i Tryz.underlying3
    obtain ⟨y, rfl, _⟩ := (hk 4 d4 33 rfl rfl).i Tryz.underlying33
    obtain ⟨bl, rfl, _⟩ := (hk 5 d5 3 rfl rfl).i Tryz.underlying3
    obtain ⟨br, rfl, _⟩ := (hk 6 d6 3 rfl rfl).i Tryz.underlying3
    obtain ⟨nm, rfl, hnm⟩ := (hk 7 d7 9 rfl rfl).s Tryz.underlying9
    obtain ⟨tk, rfl, _⟩ := (hk 8 d8 3 rfl rfl).i Tryz.underlying3
    obtain ⟨tn, rfl, _⟩ := (hk 9 d9 3 rfl rfl).i Tryz.underlying3
    obtain ⟨ts, rfl⟩ := dc_tys (hk 10 d10 22 rfl rfl) rfl
    obtain ⟨l, rfl, hll⟩ := dc_lbs (hk 11 d11 38 rfl rfl) rfl
    obtain ⟨rk, rfl, _⟩ := (hk 12 d12 3 rfl rfl).i Tryz.underlying3
    obtain ⟨vk, rfl, _⟩ := (hk 13 d13 3 rfl rfl).i Tryz.underlying3
    obtain ⟨vn, rfl, vhn⟩ := (hk 14 d14 2 rfl rfl).i Tryz.underlying2
    obtain ⟨vs, rfl, vhs⟩ := (hk 15 d15 9 rfl rfl).s Tryz.underlying9
    obtain ⟨vck, rfl, _⟩ := (hk 16 d16 3 rfl rfl).i Tryz.underlying3
    obtain ⟨vch, rfl, _⟩ := (hk 17 d17 3 rfl rfl).i Tryz.underlying3
    obtain ⟨vcl, rfl, _⟩ := (hk 18 d18 3 rfl rfl).i Tryz.underlying3
    obtain ⟨vcg, rfl⟩ := (hk 19 d19 4 rfl rfl).b Tryz.underlying4
    obtain ⟨vcks, rfl⟩ := dc_cos (hk 20 d20 25 rfl rfl) rfl
    obtain ⟨vks, rfl, vhks⟩ := dc_vas (hk 21 d21 28 rfl rfl) rfl
    obtain ⟨n, rfl, hn⟩ := (hk 22 d22 3 rfl rfl).i Tryz.underlying3
    obtain ⟨g, rfl⟩ := (hk 23 d23 4 rfl rfl).b Tryz.underlying4
    obtain ⟨a, rfl, ha⟩ := (hk 24 d24 3 rfl rfl).i Tryz.underlying3
    obtain ⟨b, rfl, hb⟩ := (hk 25 d25 3 rfl rfl).i Tryz.underlying3
    obtain ⟨st, rfl, _⟩ := (hk 26 d26 3 rfl rfl).i Tryz.underlying3
    exact ⟨ok, at0, ba, bb, y, bl, br, nm, .mk tk tn ts, l, rk, (.mk vk vn vs (.mk vck vch vcl vcg vcks) vks), n, g, a, b, st, hfv, lit_i64 hat, lit_i64 hba, lit_i64 hbb, hnm, hll, .mk _ _ _ _ _ (lit_i64 vhn) fun x hx => (vhks x hx).1, .mk _ _ _ _ _ vhs fun x hx => (vhks x hx).2, lit_i64 hn, lit_i64 ha, lit_i64 hb⟩
end
end Go.Proofs.YtccdnmjijakofaaGreatDoor
