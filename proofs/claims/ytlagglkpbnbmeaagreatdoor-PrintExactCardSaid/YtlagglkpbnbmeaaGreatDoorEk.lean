/- The plain model of layer 6: where its readers come to. -/
import Derived.Test.YtlagglkpbnbmeaaGreatDoorEM
namespace Go.Proofs.YtlagglkpbnbmeaaGreatDoor
set_option linter.unusedVariables false

def QRok {α : Type} (i n : Nat) : QR α → Prop
  | .error e => i ≤ e.1 ∧ e.1 ≤ n ∧ e.2 ≤ n
  | .ok (_, j) => i < j ∧ j ≤ n
def QRok0 {α : Type} (i n : Nat) : QR α → Prop
  | .error e => i ≤ e.1 ∧ e.1 ≤ n ∧ e.2 ≤ n
  | .ok (_, j) => i ≤ j ∧ j ≤ n
theorem okO {α : Type} {i n j : Nat} {x : QR α} {a : α} (k : QRok i n x) (h : x = .ok (a, j)) : i < j ∧ j ≤ n := by subst h; exact k
theorem okE {α : Type} {i n e q : Nat} {x : QR α} (k : QRok i n x) (h : x = .error (e, q)) : i ≤ e ∧ e ≤ n ∧ q ≤ n := by subst h; exact k
theorem okO0 {α : Type} {i n j : Nat} {x : QR α} {a : α} (k : QRok0 i n x) (h : x = .ok (a, j)) : i ≤ j ∧ j ≤ n := by subst h; exact k
theorem okE0 {α : Type} {i n e q : Nat} {x : QR α} (k : QRok0 i n x) (h : x = .error (e, q)) : i ≤ e ∧ e ≤ n ∧ q ≤ n := by subst h; exact k
theorem QRok.mono {α : Type} {i j n : Nat} {x : QR α} (h : QRok j n x) (hij : i ≤ j) : QRok i n x := by
  rcases x with e | ⟨a, k⟩
  · exact ⟨Nat.le_trans hij h.1, h.2⟩
  · exact ⟨Nat.lt_of_le_of_lt hij h.1, h.2⟩
theorem QRok0.mono {α : Type} {i j n : Nat} {x : QR α} (h : QRok0 j n x) (hij : i ≤ j) : QRok0 i n x := by
  rcases x with e | ⟨a, k⟩
  · exact ⟨Nat.le_trans hij h.1, h.2⟩
  · exact ⟨Nat.le_trans hij h.1, h.2⟩
theorem QRok0.up {α : Type} {i j n : Nat} {x : QR α} (h : QRok0 j n x) (hij : i < j) : QRok i n x := by
  rcases x with e | ⟨a, k⟩
  · exact ⟨Nat.le_trans (Nat.le_of_lt hij) h.1, h.2⟩
  · exact ⟨Nat.lt_of_lt_of_le hij h.1, h.2⟩
theorem atl {ts : List Tok} {i k : Nat} {s : List UInt8} (h : at? ts i k s = true) : i < ts.length := hit_lt h
theorem ofl {ts : List Tok} {i k : Nat} (h : of? ts i k = true) : i < ts.length := by
  unfold of? at h
  cases hx : ts[i]? with
  | none => rw [hx] at h; cases h
  | some x => exact (List.getElem?_eq_some_iff.1 hx).1
section
variable (ts : List Tok)
theorem qTyp_ok (i : Nat) (hi : i ≤ ts.length) : QRok i ts.length (qTyp ts i) := by
  have hok := mTypF_ok ((ts.drop i).length + 1) (ts.drop i)
  have hr : mRead ts i = (match mTyp (ts.drop i) with
    | .ok (t, r) => (t, ((ts.length - r.length : Nat) : Int), 0)
    | .error k => (.leaf 0, ((ts.length - k : Nat) : Int), 3)) := by
    unfold mRead
    rw [if_neg (by omega), Int.toNat_natCast]
    rfl
  unfold qTyp
  rw [hr, mTyp]
  rcases hx : mTypF ((ts.drop i).length + 1) (ts.drop i) with k | ⟨t, r⟩
  · rw [hx] at hok
    have h1 : k ≤ (ts.drop i).length := hok
    rw [List.length_drop] at h1
    show i ≤ ts.length - k ∧ ts.length - k ≤ ts.length ∧ i ≤ ts.length
    omega
  · rw [hx] at hok
    have h1 : r.length < (ts.drop i).length := hok.1
    rw [List.length_drop] at h1
    show i < ts.length - r.length ∧ ts.length - r.length ≤ ts.length
    omega
theorem qName_ok (i : Nat) (hi : i ≤ ts.length) : QRok i ts.length (qName ts i) := by
  unfold qName
  rcases h1 : of? ts i 1 with _ | _
  · simp only [Bool.false_eq_true, if_false]
    first | exact ⟨by omega, by omega, by omega⟩ | exact ⟨by omega, by omega⟩
  · simp only [if_true]
    have := ofl h1
    first | exact ⟨by omega, by omega, by omega⟩ | exact ⟨by omega, by omega⟩
theorem qMaybe_ok (i : Nat) (hi : i ≤ ts.length) : QRok0 i ts.length (qMaybe ts i) := by
  unfold qMaybe
  rcases h2 : at? ts i 5 [58] with _ | _
  · simp only [Bool.false_eq_true, if_false]
    first | exact ⟨by omega, by omega, by omega⟩ | exact ⟨by omega, by omega⟩
  · simp only [if_true]
    have := atl h2
    have k3 := qTyp_ok ts (i + 1) (by omega)
    rcases h3 : qTyp ts (i + 1) with ⟨e, q⟩ | ⟨t, j⟩
    · obtain ⟨_, _, _⟩ : (i + 1) ≤ e ∧ e ≤ ts.length ∧ q ≤ ts.length := by rw [h3] at k3; exact k3
      exact ⟨by omega, by omega, by omega⟩
    · obtain ⟨_, _⟩ : (i + 1) < j ∧ j ≤ ts.length := by rw [h3] at k3; exact k3
      try simp only
      first | exact ⟨by omega, by omega, by omega⟩ | exact ⟨by omega, by omega⟩
theorem qParam_ok (i : Nat) (hi : i ≤ ts.length) : QRok i ts.length (qParam ts i) := by
  unfold qParam
  rcases h4 : at? ts i 5 [40] with _ | _
  · simp only [Bool.false_eq_true, if_false]
    have k5 := qName_ok ts i (by omega)
    rcases h5 : qName ts i with ⟨e, q⟩ | ⟨s, j⟩
    · obtain ⟨_, _, _⟩ : i ≤ e ∧ e ≤ ts.length ∧ q ≤ ts.length := by rw [h5] at k5; exact k5
      exact ⟨by omega, by omega, by omega⟩
    · obtain ⟨_, _⟩ : i < j ∧ j ≤ ts.length := by rw [h5] at k5; exact k5
      try simp only
      first | exact ⟨by omega, by omega, by omega⟩ | exact ⟨by omega, by omega⟩
  · simp only [if_true]
    have := atl h4
    have k6 := qName_ok ts (i + 1) (by omega)
    rcases h6 : qName ts (i + 1) with ⟨e, q⟩ | ⟨s, j⟩
    · obtain ⟨_, _, _⟩ : (i + 1) ≤ e ∧ e ≤ ts.length ∧ q ≤ ts.length := by rw [h6] at k6; exact k6
      exact ⟨by omega, by omega, by omega⟩
    · obtain ⟨_, _⟩ : (i + 1) < j ∧ j ≤ ts.length := by rw [h6] at k6; exact k6
      try simp only
      rcases h7 : at? ts j 5 [58] with _ | _
      · simp only [Bool.false_eq_true, if_false]
        first | exact ⟨by omega, by omega, by omega⟩ | exact ⟨by omega, by omega⟩
      · simp only [if_true]
        have := atl h7
        have k8 := qTyp_ok ts (j + 1) (by omega)
        rcases h8 : qTyp ts (j + 1) with ⟨e, q⟩ | ⟨t, k⟩
        · obtain ⟨_, _, _⟩ : (j + 1) ≤ e ∧ e ≤ ts.length ∧ q ≤ ts.length := by rw [h8] at k8; exact k8
          exact ⟨by omega, by omega, by omega⟩
        · obtain ⟨_, _⟩ : (j + 1) < k ∧ k ≤ ts.length := by rw [h8] at k8; exact k8
          try simp only
          rcases h9 : at? ts k 5 [41] with _ | _
          · simp only [Bool.false_eq_true, if_false]
            first | exact ⟨by omega, by omega, by omega⟩ | exact ⟨by omega, by omega⟩
          · simp only [if_true]
            have := atl h9
            first | exact ⟨by omega, by omega, by omega⟩ | exact ⟨by omega, by omega⟩
theorem qRing_ok {pat : List (List UInt8) → Nat → QR (Pa × List (List UInt8))} (hp : ∀ seen j, j ≤ ts.length → QRok j ts.length (pat seen j)) (seen : List (List UInt8)) (i : Nat) (hb : i < ts.length) (hi : i ≤ ts.length) : QRok i ts.length (qRing ts pat seen i) := by
  unfold qRing
  rcases h10 : at? ts (i + 1) 5 [41] with _ | _
  · simp only [Bool.false_eq_true, if_false]
    have k11 := hp seen (i + 1) (by omega)
    rcases h11 : pat seen (i + 1) with ⟨e, q⟩ | ⟨⟨a, seen1⟩, j⟩
    · obtain ⟨_, _, _⟩ : (i + 1) ≤ e ∧ e ≤ ts.length ∧ q ≤ ts.length := by rw [h11] at k11; exact k11
      exact ⟨by omega, by omega, by omega⟩
    · obtain ⟨_, _⟩ : (i + 1) < j ∧ j ≤ ts.length := by rw [h11] at k11; exact k11
      try simp only
      rcases h12 : at? ts j 5 [41] with _ | _
      · simp only [Bool.false_eq_true, if_false]
        rcases h13 : at? ts j 5 [44] with _ | _
        · simp only [Bool.false_eq_true, if_false]
          first | exact ⟨by omega, by omega, by omega⟩ | exact ⟨by omega, by omega⟩
        · simp only [if_true]
          have := atl h13
          have k14 := hp seen1 (j + 1) (by omega)
          rcases h14 : pat seen1 (j + 1) with ⟨e, q⟩ | ⟨⟨b, seen2⟩, k⟩
          · obtain ⟨_, _, _⟩ : (j + 1) ≤ e ∧ e ≤ ts.length ∧ q ≤ ts.length := by rw [h14] at k14; exact k14
            exact ⟨by omega, by omega, by omega⟩
          · obtain ⟨_, _⟩ : (j + 1) < k ∧ k ≤ ts.length := by rw [h14] at k14; exact k14
            try simp only
            rcases h15 : at? ts k 5 [41] with _ | _
            · simp only [Bool.false_eq_true, if_false]
              first | exact ⟨by omega, by omega, by omega⟩ | exact ⟨by omega, by omega⟩
            · simp only [if_true]
              have := atl h15
              first | exact ⟨by omega, by omega, by omega⟩ | exact ⟨by omega, by omega⟩
      · simp only [if_true]
        have := atl h12
        first | exact ⟨by omega, by omega, by omega⟩ | exact ⟨by omega, by omega⟩
  · simp only [if_true]
    have := atl h10
    first | exact ⟨by omega, by omega, by omega⟩ | exact ⟨by omega, by omega⟩
theorem qRound_ok {pat : List (List UInt8) → Nat → QR (Pa × List (List UInt8))} (hp : ∀ seen j, j ≤ ts.length → QRok j ts.length (pat seen j)) (seen : List (List UInt8)) (i : Nat) (hb : i < ts.length) (hi : i ≤ ts.length) : QRok i ts.length (qRound ts pat seen i) := by
  unfold qRound
  rcases h16 : at? ts i 5 [91] with _ | _
  · simp only [Bool.false_eq_true, if_false]
    exact qRing_ok ts hp seen i hb hi
  · simp only [if_true]
    have := atl h16
    rcases h17 : at? ts (i + 1) 5 [93] with _ | _
    · simp only [Bool.false_eq_true, if_false]
      first | exact ⟨by omega, by omega, by omega⟩ | exact ⟨by omega, by omega⟩
    · simp only [if_true]
      have := atl h17
      first | exact ⟨by omega, by omega, by omega⟩ | exact ⟨by omega, by omega⟩
theorem qPop_ok {pat : List (List UInt8) → Nat → QR (Pa × List (List UInt8))} (hp : ∀ seen j, j ≤ ts.length → QRok j ts.length (pat seen j)) (seen : List (List UInt8)) (i : Nat) (hi : i ≤ ts.length) : QRok i ts.length (qPop ts pat seen i) := by
  unfold qPop
  rcases h18 : at? ts i 5 [95] with _ | _
  · simp only [Bool.false_eq_true, if_false]
    rcases h19 : of? ts i 1 with _ | _
    · simp only [Bool.false_eq_true, if_false]
      rcases h20 : of? ts i 3 with _ | _
      · simp only [Bool.false_eq_true, if_false]
        rcases h21 : of? ts i 4 with _ | _
        · simp only [Bool.false_eq_true, if_false]
          rcases h22 : at? ts i 2 [116, 114, 117, 101] with _ | _
          · simp only [Bool.false_eq_true, if_false]
            rcases h23 : at? ts i 2 [102, 97, 108, 115, 101] with _ | _
            · simp only [Bool.false_eq_true, if_false]
              rcases hb : (at? ts i 5 [91] || at? ts i 5 [40]) with _ | _
              · simp only [Bool.false_eq_true, if_false]
                exact ⟨by omega, by omega, by omega⟩
              · simp only [if_true]
                rw [Bool.or_eq_true] at hb
                exact qRound_ok ts hp seen i (hb.elim atl atl) hi
            · simp only [if_true]
              have := atl h23
              first | exact ⟨by omega, by omega, by omega⟩ | exact ⟨by omega, by omega⟩
          · simp only [if_true]
            have := atl h22
            first | exact ⟨by omega, by omega, by omega⟩ | exact ⟨by omega, by omega⟩
        · simp only [if_true]
          have := ofl h21
          first | exact ⟨by omega, by omega, by omega⟩ | exact ⟨by omega, by omega⟩
      · simp only [if_true]
        have := ofl h20
        first | exact ⟨by omega, by omega, by omega⟩ | exact ⟨by omega, by omega⟩
    · simp only [if_true]
      have := ofl h19
      rcases h24 : seen.contains (strE ts i) with _ | _
      · simp only [Bool.false_eq_true, if_false]
        first | exact ⟨by omega, by omega, by omega⟩ | exact ⟨by omega, by omega⟩
      · simp only [if_true]
        skip
        first | exact ⟨by omega, by omega, by omega⟩ | exact ⟨by omega, by omega⟩
  · simp only [if_true]
    have := atl h18
    first | exact ⟨by omega, by omega, by omega⟩ | exact ⟨by omega, by omega⟩
theorem qParen_ok {ex : Nat → QR Ex} (he : ∀ j, j ≤ ts.length → QRok j ts.length (ex j)) (i : Nat) (hb : i < ts.length) : QRok i ts.length (qParen ts ex i) := by
  unfold qParen
  have k25 := he (i + 1) (by omega)
  rcases h25 : ex (i + 1) with ⟨e, q⟩ | ⟨a, j⟩
  · obtain ⟨_, _, _⟩ : (i + 1) ≤ e ∧ e ≤ ts.length ∧ q ≤ ts.length := by rw [h25] at k25; exact k25
    exact ⟨by omega, by omega, by omega⟩
  · obtain ⟨_, _⟩ : (i + 1) < j ∧ j ≤ ts.length := by rw [h25] at k25; exact k25
    try simp only
    rcases h26 : at? ts j 5 [41] with _ | _
    · simp only [Bool.false_eq_true, if_false]
      rcases h27 : at? ts j 5 [44] with _ | _
      · simp only [Bool.false_eq_true, if_false]
        rcases h28 : at? ts j 5 [58] with _ | _
        · simp only [Bool.false_eq_true, if_false]
          first | exact ⟨by omega, by omega, by omega⟩ | exact ⟨by omega, by omega⟩
        · simp only [if_true]
          have := atl h28
          have k29 := qTyp_ok ts (j + 1) (by omega)
          rcases h29 : qTyp ts (j + 1) with ⟨e, q⟩ | ⟨t, k⟩
          · obtain ⟨_, _, _⟩ : (j + 1) ≤ e ∧ e ≤ ts.length ∧ q ≤ ts.length := by rw [h29] at k29; exact k29
            exact ⟨by omega, by omega, by omega⟩
          · obtain ⟨_, _⟩ : (j + 1) < k ∧ k ≤ ts.length := by rw [h29] at k29; exact k29
            try simp only
            rcases h30 : at? ts k 5 [41] with _ | _
            · simp only [Bool.false_eq_true, if_false]
              first | exact ⟨by omega, by omega, by omega⟩ | exact ⟨by omega, by omega⟩
            · simp only [if_true]
              have := atl h30
              first | exact ⟨by omega, by omega, by omega⟩ | exact ⟨by omega, by omega⟩
      · simp only [if_true]
        have := atl h27
        have k31 := he (j + 1) (by omega)
        rcases h31 : ex (j + 1) with ⟨e, q⟩ | ⟨b, k⟩
        · obtain ⟨_, _, _⟩ : (j + 1) ≤ e ∧ e ≤ ts.length ∧ q ≤ ts.length := by rw [h31] at k31; exact k31
          exact ⟨by omega, by omega, by omega⟩
        · obtain ⟨_, _⟩ : (j + 1) < k ∧ k ≤ ts.length := by rw [h31] at k31; exact k31
          try simp only
          rcases h32 : at? ts k 5 [41] with _ | _
          · simp only [Bool.false_eq_true, if_false]
            first | exact ⟨by omega, by omega, by omega⟩ | exact ⟨by omega, by omega⟩
          · simp only [if_true]
            have := atl h32
            first | exact ⟨by omega, by omega, by omega⟩ | exact ⟨by omega, by omega⟩
    · simp only [if_true]
      have := atl h26
      first | exact ⟨by omega, by omega, by omega⟩ | exact ⟨by omega, by omega⟩
theorem qRnd_ok {ex : Nat → QR Ex} (he : ∀ j, j ≤ ts.length → QRok j ts.length (ex j)) (i : Nat) (hb : i < ts.length) : QRok i ts.length (qRnd ts ex i) := by
  unfold qRnd
  rcases h33 : at? ts (i + 1) 5 [41] with _ | _
  · simp only [Bool.false_eq_true, if_false]
    exact qParen_ok ts he i (by omega)
  · simp only [if_true]
    have := atl h33
    first | exact ⟨by omega, by omega, by omega⟩ | exact ⟨by omega, by omega⟩
theorem qLeaf_ok (i : Nat) (hi : i ≤ ts.length) : QRok i ts.length (qLeaf ts i) := by
  unfold qLeaf
  rcases h34 : of? ts i 1 with _ | _
  · simp only [Bool.false_eq_true, if_false]
    rcases h35 : of? ts i 3 with _ | _
    · simp only [Bool.false_eq_true, if_false]
      rcases h36 : of? ts i 4 with _ | _
      · simp only [Bool.false_eq_true, if_false]
        rcases h37 : at? ts i 2 [116, 114, 117, 101] with _ | _
        · simp only [Bool.false_eq_true, if_false]
          rcases h38 : at? ts i 2 [102, 97, 108, 115, 101] with _ | _
          · simp only [Bool.false_eq_true, if_false]
            first | exact ⟨by omega, by omega, by omega⟩ | exact ⟨by omega, by omega⟩
          · simp only [if_true]
            have := atl h38
            first | exact ⟨by omega, by omega, by omega⟩ | exact ⟨by omega, by omega⟩
        · simp only [if_true]
          have := atl h37
          first | exact ⟨by omega, by omega, by omega⟩ | exact ⟨by omega, by omega⟩
      · simp only [if_true]
        have := ofl h36
        first | exact ⟨by omega, by omega, by omega⟩ | exact ⟨by omega, by omega⟩
    · simp only [if_true]
      have := ofl h35
      first | exact ⟨by omega, by omega, by omega⟩ | exact ⟨by omega, by omega⟩
  · simp only [if_true]
    have := ofl h34
    first | exact ⟨by omega, by omega, by omega⟩ | exact ⟨by omega, by omega⟩
theorem qAtom_ok {ex : Nat → QR Ex} (he : ∀ j, j ≤ ts.length → QRok j ts.length (ex j)) (i : Nat) (hi : i ≤ ts.length) : QRok i ts.length (qAtom ts ex i) := by
  unfold qAtom
  have k := qLeaf_ok ts i hi
  rcases hl : qLeaf ts i with e | p
  · simp only
    rcases h39 : at? ts i 5 [91] with _ | _
    · simp only [Bool.false_eq_true, if_false]
      rcases h40 : at? ts i 5 [40] with _ | _
      · simp only [Bool.false_eq_true, if_false]
        first | exact ⟨by omega, by omega, by omega⟩ | exact ⟨by omega, by omega⟩
      · simp only [if_true]
        have := atl h40
        exact qRnd_ok ts he i (by omega)
    · simp only [if_true]
      have := atl h39
      rcases h41 : at? ts (i + 1) 5 [93] with _ | _
      · simp only [Bool.false_eq_true, if_false]
        first | exact ⟨by omega, by omega, by omega⟩ | exact ⟨by omega, by omega⟩
      · simp only [if_true]
        have := atl h41
        first | exact ⟨by omega, by omega, by omega⟩ | exact ⟨by omega, by omega⟩
  · rw [hl] at k
    exact k
theorem qPatF_ok : ∀ (f : Nat) (seen : List (List UInt8)) (i : Nat), i ≤ ts.length → QRok i ts.length (qPatF ts f seen i)
  | 0, _, i, hi => ⟨Nat.le_refl _, hi, hi⟩
  | f + 1, seen, i, hi => by
    have hp := qPatF_ok f
    unfold qPatF
    have k42 := qPop_ok ts hp seen i (by omega)
    rcases h42 : qPop ts (qPatF ts f) seen i with ⟨e, q⟩ | ⟨⟨a, seen1⟩, j⟩
    · obtain ⟨_, _, _⟩ : i ≤ e ∧ e ≤ ts.length ∧ q ≤ ts.length := by rw [h42] at k42; exact k42
      exact ⟨by omega, by omega, by omega⟩
    · obtain ⟨_, _⟩ : i < j ∧ j ≤ ts.length := by rw [h42] at k42; exact k42
      try simp only
      rcases h43 : at? ts j 5 [58, 58] with _ | _
      · simp only [Bool.false_eq_true, if_false]
        first | exact ⟨by omega, by omega, by omega⟩ | exact ⟨by omega, by omega⟩
      · simp only [if_true]
        have := atl h43
        have k44 := hp seen1 (j + 1) (by omega)
        rcases h44 : qPatF ts f seen1 (j + 1) with ⟨e, q⟩ | ⟨⟨b, seen2⟩, k⟩
        · obtain ⟨_, _, _⟩ : (j + 1) ≤ e ∧ e ≤ ts.length ∧ q ≤ ts.length := by rw [h44] at k44; exact k44
          exact ⟨by omega, by omega, by omega⟩
        · obtain ⟨_, _⟩ : (j + 1) < k ∧ k ≤ ts.length := by rw [h44] at k44; exact k44
          try simp only
          first | exact ⟨by omega, by omega, by omega⟩ | exact ⟨by omega, by omega⟩
theorem qAppL_ok {ex : Nat → QR Ex} (he : ∀ j, j ≤ ts.length → QRok j ts.length (ex j)) : ∀ (f : Nat) (a : Ex) (i : Nat), i ≤ ts.length → QRok0 i ts.length (qAppL ts ex f a i)
  | 0, _, i, hi => ⟨Nat.le_refl _, hi, hi⟩
  | f + 1, a, i, hi => by
    unfold qAppL
    rcases h45 : eBegins ts i with _ | _
    · simp only [Bool.false_eq_true, if_false]
      first | exact ⟨by omega, by omega, by omega⟩ | exact ⟨by omega, by omega⟩
    · simp only [if_true]
      skip
      have k46 := qAtom_ok ts he i (by omega)
      rcases h46 : qAtom ts ex i with ⟨e, q⟩ | ⟨b, j⟩
      · obtain ⟨_, _, _⟩ : i ≤ e ∧ e ≤ ts.length ∧ q ≤ ts.length := by rw [h46] at k46; exact k46
        exact ⟨by omega, by omega, by omega⟩
      · obtain ⟨_, _⟩ : i < j ∧ j ≤ ts.length := by rw [h46] at k46; exact k46
        try simp only
        exact (qAppL_ok he f _ j (by omega)).mono (by omega)
theorem qApp_ok {ex : Nat → QR Ex} (he : ∀ j, j ≤ ts.length → QRok j ts.length (ex j)) (i : Nat) (hi : i ≤ ts.length) : QRok i ts.length (qApp ts ex i) := by
  unfold qApp
  have k47 := qAtom_ok ts he i (by omega)
  rcases h47 : qAtom ts ex i with ⟨e, q⟩ | ⟨a, j⟩
  · obtain ⟨_, _, _⟩ : i ≤ e ∧ e ≤ ts.length ∧ q ≤ ts.length := by rw [h47] at k47; exact k47
    exact ⟨by omega, by omega, by omega⟩
  · obtain ⟨_, _⟩ : i < j ∧ j ≤ ts.length := by rw [h47] at k47; exact k47
    try simp only
    exact (qAppL_ok ts he _ _ j (by omega)).up (by omega)
theorem qProdL_ok {ex : Nat → QR Ex} (he : ∀ j, j ≤ ts.length → QRok j ts.length (ex j)) : ∀ (f : Nat) (a : Ex) (i : Nat), i ≤ ts.length → QRok0 i ts.length (qProdL ts ex f a i)
  | 0, _, i, hi => ⟨Nat.le_refl _, hi, hi⟩
  | f + 1, a, i, hi => by
    unfold qProdL
    rcases h48 : at? ts i 5 [42] with _ | _
    · simp only [Bool.false_eq_true, if_false]
      rcases h49 : at? ts i 5 [47] with _ | _
      · simp only [Bool.false_eq_true, if_false]
        first | exact ⟨by omega, by omega, by omega⟩ | exact ⟨by omega, by omega⟩
      · simp only [if_true]
        have := atl h49
        have k50 := qApp_ok ts he (i + 1) (by omega)
        rcases h50 : qApp ts ex (i + 1) with ⟨e, q⟩ | ⟨b, j⟩
        · obtain ⟨_, _, _⟩ : (i + 1) ≤ e ∧ e ≤ ts.length ∧ q ≤ ts.length := by rw [h50] at k50; exact k50
          exact ⟨by omega, by omega, by omega⟩
        · obtain ⟨_, _⟩ : (i + 1) < j ∧ j ≤ ts.length := by rw [h50] at k50; exact k50
          try simp only
          exact (qProdL_ok he f _ j (by omega)).mono (by omega)
    · simp only [if_true]
      have := atl h48
      have k51 := qApp_ok ts he (i + 1) (by omega)
      rcases h51 : qApp ts ex (i + 1) with ⟨e, q⟩ | ⟨b, j⟩
      · obtain ⟨_, _, _⟩ : (i + 1) ≤ e ∧ e ≤ ts.length ∧ q ≤ ts.length := by rw [h51] at k51; exact k51
        exact ⟨by omega, by omega, by omega⟩
      · obtain ⟨_, _⟩ : (i + 1) < j ∧ j ≤ ts.length := by rw [h51] at k51; exact k51
        try simp only
        exact (qProdL_ok he f _ j (by omega)).mono (by omega)
theorem qProd_ok {ex : Nat → QR Ex} (he : ∀ j, j ≤ ts.length → QRok j ts.length (ex j)) (i : Nat) (hi : i ≤ ts.length) : QRok i ts.length (qProd ts ex i) := by
  unfold qProd
  have k52 := qApp_ok ts he i (by omega)
  rcases h52 : qApp ts ex i with ⟨e, q⟩ | ⟨a, j⟩
  · obtain ⟨_, _, _⟩ : i ≤ e ∧ e ≤ ts.length ∧ q ≤ ts.length := by rw [h52] at k52; exact k52
    exact ⟨by omega, by omega, by omega⟩
  · obtain ⟨_, _⟩ : i < j ∧ j ≤ ts.length := by rw [h52] at k52; exact k52
    try simp only
    exact (qProdL_ok ts he _ _ j (by omega)).up (by omega)
theorem qSumL_ok {ex : Nat → QR Ex} (he : ∀ j, j ≤ ts.length → QRok j ts.length (ex j)) : ∀ (f : Nat) (a : Ex) (i : Nat), i ≤ ts.length → QRok0 i ts.length (qSumL ts ex f a i)
  | 0, _, i, hi => ⟨Nat.le_refl _, hi, hi⟩
  | f + 1, a, i, hi => by
    unfold qSumL
    rcases h53 : at? ts i 5 [43] with _ | _
    · simp only [Bool.false_eq_true, if_false]
      rcases h54 : at? ts i 5 [45] with _ | _
      · simp only [Bool.false_eq_true, if_false]
        first | exact ⟨by omega, by omega, by omega⟩ | exact ⟨by omega, by omega⟩
      · simp only [if_true]
        have := atl h54
        have k55 := qProd_ok ts he (i + 1) (by omega)
        rcases h55 : qProd ts ex (i + 1) with ⟨e, q⟩ | ⟨b, j⟩
        · obtain ⟨_, _, _⟩ : (i + 1) ≤ e ∧ e ≤ ts.length ∧ q ≤ ts.length := by rw [h55] at k55; exact k55
          exact ⟨by omega, by omega, by omega⟩
        · obtain ⟨_, _⟩ : (i + 1) < j ∧ j ≤ ts.length := by rw [h55] at k55; exact k55
          try simp only
          exact (qSumL_ok he f _ j (by omega)).mono (by omega)
    · simp only [if_true]
      have := atl h53
      have k56 := qProd_ok ts he (i + 1) (by omega)
      rcases h56 : qProd ts ex (i + 1) with ⟨e, q⟩ | ⟨b, j⟩
      · obtain ⟨_, _, _⟩ : (i + 1) ≤ e ∧ e ≤ ts.length ∧ q ≤ ts.length := by rw [h56] at k56; exact k56
        exact ⟨by omega, by omega, by omega⟩
      · obtain ⟨_, _⟩ : (i + 1) < j ∧ j ≤ ts.length := by rw [h56] at k56; exact k56
        try simp only
        exact (qSumL_ok he f _ j (by omega)).mono (by omega)
theorem qSum_ok {ex : Nat → QR Ex} (he : ∀ j, j ≤ ts.length → QRok j ts.length (ex j)) (i : Nat) (hi : i ≤ ts.length) : QRok i ts.length (qSum ts ex i) := by
  unfold qSum
  have k57 := qProd_ok ts he i (by omega)
  rcases h57 : qProd ts ex i with ⟨e, q⟩ | ⟨a, j⟩
  · obtain ⟨_, _, _⟩ : i ≤ e ∧ e ≤ ts.length ∧ q ≤ ts.length := by rw [h57] at k57; exact k57
    exact ⟨by omega, by omega, by omega⟩
  · obtain ⟨_, _⟩ : i < j ∧ j ≤ ts.length := by rw [h57] at k57; exact k57
    try simp only
    exact (qSumL_ok ts he _ _ j (by omega)).up (by omega)
theorem qConsF_ok {ex : Nat → QR Ex} (he : ∀ j, j ≤ ts.length → QRok j ts.length (ex j)) : ∀ (f : Nat) (i : Nat), i ≤ ts.length → QRok i ts.length (qConsF ts ex f i)
  | 0, i, hi => ⟨Nat.le_refl _, hi, hi⟩
  | f + 1, i, hi => by
    unfold qConsF
    have k58 := qSum_ok ts he i (by omega)
    rcases h58 : qSum ts ex i with ⟨e, q⟩ | ⟨a, j⟩
    · obtain ⟨_, _, _⟩ : i ≤ e ∧ e ≤ ts.length ∧ q ≤ ts.length := by rw [h58] at k58; exact k58
      exact ⟨by omega, by omega, by omega⟩
    · obtain ⟨_, _⟩ : i < j ∧ j ≤ ts.length := by rw [h58] at k58; exact k58
      try simp only
      rcases h59 : at? ts j 5 [58, 58] with _ | _
      · simp only [Bool.false_eq_true, if_false]
        first | exact ⟨by omega, by omega, by omega⟩ | exact ⟨by omega, by omega⟩
      · simp only [if_true]
        have := atl h59
        have k60 := qConsF_ok he f (j + 1) (by omega)
        rcases h60 : qConsF ts ex f (j + 1) with ⟨e, q⟩ | ⟨b, k⟩
        · obtain ⟨_, _, _⟩ : (j + 1) ≤ e ∧ e ≤ ts.length ∧ q ≤ ts.length := by rw [h60] at k60; exact k60
          exact ⟨by omega, by omega, by omega⟩
        · obtain ⟨_, _⟩ : (j + 1) < k ∧ k ≤ ts.length := by rw [h60] at k60; exact k60
          try simp only
          first | exact ⟨by omega, by omega, by omega⟩ | exact ⟨by omega, by omega⟩
theorem qCons_ok {ex : Nat → QR Ex} (he : ∀ j, j ≤ ts.length → QRok j ts.length (ex j)) (i : Nat) (hi : i ≤ ts.length) : QRok i ts.length (qCons ts ex i) := by
  unfold qCons
  exact qConsF_ok ts he _ i hi
theorem qCmp_ok {ex : Nat → QR Ex} (he : ∀ j, j ≤ ts.length → QRok j ts.length (ex j)) (i : Nat) (hi : i ≤ ts.length) : QRok i ts.length (qCmp ts ex i) := by
  unfold qCmp
  have k61 := qCons_ok ts he i (by omega)
  rcases h61 : qCons ts ex i with ⟨e, q⟩ | ⟨a, j⟩
  · obtain ⟨_, _, _⟩ : i ≤ e ∧ e ≤ ts.length ∧ q ≤ ts.length := by rw [h61] at k61; exact k61
    exact ⟨by omega, by omega, by omega⟩
  · obtain ⟨_, _⟩ : i < j ∧ j ≤ ts.length := by rw [h61] at k61; exact k61
    try simp only
    rcases h62 : at? ts j 5 [60] with _ | _
    · simp only [Bool.false_eq_true, if_false]
      rcases h63 : at? ts j 5 [61] with _ | _
      · simp only [Bool.false_eq_true, if_false]
        rcases h64 : at? ts j 5 [61, 61] with _ | _
        · simp only [Bool.false_eq_true, if_false]
          first | exact ⟨by omega, by omega, by omega⟩ | exact ⟨by omega, by omega⟩
        · simp only [if_true]
          have := atl h64
          have k65 := qCons_ok ts he (j + 1) (by omega)
          rcases h65 : qCons ts ex (j + 1) with ⟨e, q⟩ | ⟨b, k⟩
          · obtain ⟨_, _, _⟩ : (j + 1) ≤ e ∧ e ≤ ts.length ∧ q ≤ ts.length := by rw [h65] at k65; exact k65
            exact ⟨by omega, by omega, by omega⟩
          · obtain ⟨_, _⟩ : (j + 1) < k ∧ k ≤ ts.length := by rw [h65] at k65; exact k65
            try simp only
            first | exact ⟨by omega, by omega, by omega⟩ | exact ⟨by omega, by omega⟩
      · simp only [if_true]
        have := atl h63
        have k66 := qCons_ok ts he (j + 1) (by omega)
        rcases h66 : qCons ts ex (j + 1) with ⟨e, q⟩ | ⟨b, k⟩
        · obtain ⟨_, _, _⟩ : (j + 1) ≤ e ∧ e ≤ ts.length ∧ q ≤ ts.length := by rw [h66] at k66; exact k66
          exact ⟨by omega, by omega, by omega⟩
        · obtain ⟨_, _⟩ : (j + 1) < k ∧ k ≤ ts.length := by rw [h66] at k66; exact k66
          try simp only
          first | exact ⟨by omega, by omega, by omega⟩ | exact ⟨by omega, by omega⟩
    · simp only [if_true]
      have := atl h62
      have k67 := qCons_ok ts he (j + 1) (by omega)
      rcases h67 : qCons ts ex (j + 1) with ⟨e, q⟩ | ⟨b, k⟩
      · obtain ⟨_, _, _⟩ : (j + 1) ≤ e ∧ e ≤ ts.length ∧ q ≤ ts.length := by rw [h67] at k67; exact k67
        exact ⟨by omega, by omega, by omega⟩
      · obtain ⟨_, _⟩ : (j + 1) < k ∧ k ≤ ts.length := by rw [h67] at k67; exact k67
        try simp only
        first | exact ⟨by omega, by omega, by omega⟩ | exact ⟨by omega, by omega⟩
theorem qBody_ok {ex : Nat → QR Ex} (he : ∀ j, j ≤ ts.length → QRok j ts.length (ex j)) (i : Nat) (hi : i ≤ ts.length) : QRok i ts.length (qBody ts ex i) := by
  unfold qBody
  rcases h68 : at? ts i 5 [61] with _ | _
  · simp only [Bool.false_eq_true, if_false]
    first | exact ⟨by omega, by omega, by omega⟩ | exact ⟨by omega, by omega⟩
  · simp only [if_true]
    have := atl h68
    have k69 := he (i + 1) (by omega)
    rcases h69 : ex (i + 1) with ⟨e, q⟩ | ⟨a, j⟩
    · obtain ⟨_, _, _⟩ : (i + 1) ≤ e ∧ e ≤ ts.length ∧ q ≤ ts.length := by rw [h69] at k69; exact k69
      exact ⟨by omega, by omega, by omega⟩
    · obtain ⟨_, _⟩ : (i + 1) < j ∧ j ≤ ts.length := by rw [h69] at k69; exact k69
      try simp only
      rcases h70 : at? ts j 2 [105, 110] with _ | _
      · simp only [Bool.false_eq_true, if_false]
        first | exact ⟨by omega, by omega, by omega⟩ | exact ⟨by omega, by omega⟩
      · simp only [if_true]
        have := atl h70
        have k71 := he (j + 1) (by omega)
        rcases h71 : ex (j + 1) with ⟨e, q⟩ | ⟨b, k⟩
        · obtain ⟨_, _, _⟩ : (j + 1) ≤ e ∧ e ≤ ts.length ∧ q ≤ ts.length := by rw [h71] at k71; exact k71
          exact ⟨by omega, by omega, by omega⟩
        · obtain ⟨_, _⟩ : (j + 1) < k ∧ k ≤ ts.length := by rw [h71] at k71; exact k71
          try simp only
          first | exact ⟨by omega, by omega, by omega⟩ | exact ⟨by omega, by omega⟩
theorem qLet_ok {ex : Nat → QR Ex} (he : ∀ j, j ≤ ts.length → QRok j ts.length (ex j)) (fr : Int) (i : Nat) (hi : i ≤ ts.length) : QRok i ts.length (qLet ts ex fr i) := by
  unfold qLet
  have k72 := qName_ok ts i (by omega)
  rcases h72 : qName ts i with ⟨e, q⟩ | ⟨s, j⟩
  · obtain ⟨_, _, _⟩ : i ≤ e ∧ e ≤ ts.length ∧ q ≤ ts.length := by rw [h72] at k72; exact k72
    exact ⟨by omega, by omega, by omega⟩
  · obtain ⟨_, _⟩ : i < j ∧ j ≤ ts.length := by rw [h72] at k72; exact k72
    try simp only
    have k73 := qMaybe_ok ts j (by omega)
    rcases h73 : qMaybe ts j with ⟨e, q⟩ | ⟨t, k⟩
    · obtain ⟨_, _, _⟩ : j ≤ e ∧ e ≤ ts.length ∧ q ≤ ts.length := by rw [h73] at k73; exact k73
      exact ⟨by omega, by omega, by omega⟩
    · obtain ⟨_, _⟩ : j ≤ k ∧ k ≤ ts.length := by rw [h73] at k73; exact k73
      try simp only
      have k74 := qBody_ok ts he k (by omega)
      rcases h74 : qBody ts ex k with ⟨e, q⟩ | ⟨⟨a, b⟩, m⟩
      · obtain ⟨_, _, _⟩ : k ≤ e ∧ e ≤ ts.length ∧ q ≤ ts.length := by rw [h74] at k74; exact k74
        exact ⟨by omega, by omega, by omega⟩
      · obtain ⟨_, _⟩ : k < m ∧ m ≤ ts.length := by rw [h74] at k74; exact k74
        try simp only
        first | exact ⟨by omega, by omega, by omega⟩ | exact ⟨by omega, by omega⟩
theorem qRec_ok {ex : Nat → QR Ex} (he : ∀ j, j ≤ ts.length → QRok j ts.length (ex j)) (fr : Int) (i : Nat) (hi : i ≤ ts.length) : QRok i ts.length (qRec ts ex fr i) := by
  unfold qRec
  have k75 := qName_ok ts i (by omega)
  rcases h75 : qName ts i with ⟨e, q⟩ | ⟨s, j⟩
  · obtain ⟨_, _, _⟩ : i ≤ e ∧ e ≤ ts.length ∧ q ≤ ts.length := by rw [h75] at k75; exact k75
    exact ⟨by omega, by omega, by omega⟩
  · obtain ⟨_, _⟩ : i < j ∧ j ≤ ts.length := by rw [h75] at k75; exact k75
    try simp only
    have k76 := qParam_ok ts j (by omega)
    rcases h76 : qParam ts j with ⟨e, q⟩ | ⟨⟨g, t⟩, k⟩
    · obtain ⟨_, _, _⟩ : j ≤ e ∧ e ≤ ts.length ∧ q ≤ ts.length := by rw [h76] at k76; exact k76
      exact ⟨by omega, by omega, by omega⟩
    · obtain ⟨_, _⟩ : j < k ∧ k ≤ ts.length := by rw [h76] at k76; exact k76
      try simp only
      have k77 := qMaybe_ok ts k (by omega)
      rcases h77 : qMaybe ts k with ⟨e, q⟩ | ⟨u, l⟩
      · obtain ⟨_, _, _⟩ : k ≤ e ∧ e ≤ ts.length ∧ q ≤ ts.length := by rw [h77] at k77; exact k77
        exact ⟨by omega, by omega, by omega⟩
      · obtain ⟨_, _⟩ : k ≤ l ∧ l ≤ ts.length := by rw [h77] at k77; exact k77
        try simp only
        have k78 := qBody_ok ts he l (by omega)
        rcases h78 : qBody ts ex l with ⟨e, q⟩ | ⟨⟨a, b⟩, m⟩
        · obtain ⟨_, _, _⟩ : l ≤ e ∧ e ≤ ts.length ∧ q ≤ ts.length := by rw [h78] at k78; exact k78
          exact ⟨by omega, by omega, by omega⟩
        · obtain ⟨_, _⟩ : l < m ∧ m ≤ ts.length := by rw [h78] at k78; exact k78
          try simp only
          first | exact ⟨by omega, by omega, by omega⟩ | exact ⟨by omega, by omega⟩
theorem qFun_ok {ex : Nat → QR Ex} (he : ∀ j, j ≤ ts.length → QRok j ts.length (ex j)) (fr : Int) (i : Nat) (hi : i ≤ ts.length) : QRok i ts.length (qFun ts ex fr i) := by
  unfold qFun
  have k79 := qParam_ok ts i (by omega)
  rcases h79 : qParam ts i with ⟨e, q⟩ | ⟨⟨s, t⟩, j⟩
  · obtain ⟨_, _, _⟩ : i ≤ e ∧ e ≤ ts.length ∧ q ≤ ts.length := by rw [h79] at k79; exact k79
    exact ⟨by omega, by omega, by omega⟩
  · obtain ⟨_, _⟩ : i < j ∧ j ≤ ts.length := by rw [h79] at k79; exact k79
    try simp only
    rcases h80 : at? ts j 5 [45, 62] with _ | _
    · simp only [Bool.false_eq_true, if_false]
      first | exact ⟨by omega, by omega, by omega⟩ | exact ⟨by omega, by omega⟩
    · simp only [if_true]
      have := atl h80
      have k81 := he (j + 1) (by omega)
      rcases h81 : ex (j + 1) with ⟨e, q⟩ | ⟨b, k⟩
      · obtain ⟨_, _, _⟩ : (j + 1) ≤ e ∧ e ≤ ts.length ∧ q ≤ ts.length := by rw [h81] at k81; exact k81
        exact ⟨by omega, by omega, by omega⟩
      · obtain ⟨_, _⟩ : (j + 1) < k ∧ k ≤ ts.length := by rw [h81] at k81; exact k81
        try simp only
        first | exact ⟨by omega, by omega, by omega⟩ | exact ⟨by omega, by omega⟩
theorem qIfS_ok {ex : Nat → QR Ex} (he : ∀ j, j ≤ ts.length → QRok j ts.length (ex j)) (fr : Int) : ∀ (ws : List (List UInt8)) (es : List Ex) (i : Nat), i ≤ ts.length → QRok0 i ts.length (qIfS ts ex fr ws es i)
  | [], es, i, hi => ⟨Nat.le_refl _, hi⟩
  | w :: ws, es, i, hi => by
    unfold qIfS
    have k82 := he i (by omega)
    rcases h82 : ex i with ⟨e, q⟩ | ⟨a, j⟩
    · obtain ⟨_, _, _⟩ : i ≤ e ∧ e ≤ ts.length ∧ q ≤ ts.length := by rw [h82] at k82; exact k82
      exact ⟨by omega, by omega, by omega⟩
    · obtain ⟨_, _⟩ : i < j ∧ j ≤ ts.length := by rw [h82] at k82; exact k82
      try simp only
      split
      · exact (qIfS_ok he fr ws _ j (by omega)).mono (by omega)
      · rcases h : at? ts j 2 w with _ | _
        · exact ⟨by omega, by omega, by omega⟩
        · have := atl h
          exact (qIfS_ok he fr ws _ (j + 1) (by omega)).mono (by omega)
theorem qIf_ok {ex : Nat → QR Ex} (he : ∀ j, j ≤ ts.length → QRok j ts.length (ex j)) (fr : Int) (i : Nat) (hi : i ≤ ts.length) : QRok i ts.length (qIf ts ex fr i) := by
  unfold qIf qIfS
  have k83 := he i (by omega)
  rcases h83 : ex i with ⟨e, q⟩ | ⟨a, j⟩
  · obtain ⟨_, _, _⟩ : i ≤ e ∧ e ≤ ts.length ∧ q ≤ ts.length := by rw [h83] at k83; exact k83
    exact ⟨by omega, by omega, by omega⟩
  · obtain ⟨_, _⟩ : i < j ∧ j ≤ ts.length := by rw [h83] at k83; exact k83
    try simp only
    rw [if_neg (by decide)]
    rcases h : at? ts j 2 [116, 104, 101, 110] with _ | _
    · exact ⟨by omega, by omega, by omega⟩
    · have := atl h
      exact (qIfS_ok ts he fr _ _ (j + 1) (by omega)).up (by omega)
theorem qEnd_ok (fr : Int) (ps : List Pa) (es : List Ex) (i : Nat) (hi : i ≤ ts.length) : QRok i ts.length (qEnd ts fr ps es i) := by
  unfold qEnd
  rcases h84 : at? ts i 2 [101, 110, 100] with _ | _
  · simp only [Bool.false_eq_true, if_false]
    first | exact ⟨by omega, by omega, by omega⟩ | exact ⟨by omega, by omega⟩
  · simp only [if_true]
    have := atl h84
    first | exact ⟨by omega, by omega, by omega⟩ | exact ⟨by omega, by omega⟩
theorem qArms_ok {ex : Nat → QR Ex} (he : ∀ j, j ≤ ts.length → QRok j ts.length (ex j)) (fr : Int) : ∀ (f : Nat) (ps : List Pa) (es : List Ex) (i : Nat), i ≤ ts.length → QRok i ts.length (qArms ts ex fr f ps es i)
  | 0, _, _, i, hi => ⟨Nat.le_refl _, hi, hi⟩
  | f + 1, ps, es, i, hi => by
    unfold qArms
    have k85 := qPatF_ok ts (ts.length + 1) [] i (by omega)
    rcases h85 : qPatF ts (ts.length + 1) [] i with ⟨e, q⟩ | ⟨⟨p, s⟩, j⟩
    · obtain ⟨_, _, _⟩ : i ≤ e ∧ e ≤ ts.length ∧ q ≤ ts.length := by rw [h85] at k85; exact k85
      exact ⟨by omega, by omega, by omega⟩
    · obtain ⟨_, _⟩ : i < j ∧ j ≤ ts.length := by rw [h85] at k85; exact k85
      try simp only
      rcases h86 : at? ts j 5 [45, 62] with _ | _
      · simp only [Bool.false_eq_true, if_false]
        first | exact ⟨by omega, by omega, by omega⟩ | exact ⟨by omega, by omega⟩
      · simp only [if_true]
        have := atl h86
        have k87 := he (j + 1) (by omega)
        rcases h87 : ex (j + 1) with ⟨e, q⟩ | ⟨a, k⟩
        · obtain ⟨_, _, _⟩ : (j + 1) ≤ e ∧ e ≤ ts.length ∧ q ≤ ts.length := by rw [h87] at k87; exact k87
          exact ⟨by omega, by omega, by omega⟩
        · obtain ⟨_, _⟩ : (j + 1) < k ∧ k ≤ ts.length := by rw [h87] at k87; exact k87
          try simp only
          rcases h88 : at? ts k 5 [124] with _ | _
          · simp only [Bool.false_eq_true, if_false]
            exact (qEnd_ok ts fr _ _ k (by omega)).mono (by omega)
          · simp only [if_true]
            have := atl h88
            exact (qArms_ok he fr f _ _ (k + 1) (by omega)).mono (by omega)
theorem qMatch_ok {ex : Nat → QR Ex} (he : ∀ j, j ≤ ts.length → QRok j ts.length (ex j)) (fr : Int) (i : Nat) (hi : i ≤ ts.length) : QRok i ts.length (qMatch ts ex fr i) := by
  unfold qMatch
  have k89 := he i (by omega)
  rcases h89 : ex i with ⟨e, q⟩ | ⟨x, j⟩
  · obtain ⟨_, _, _⟩ : i ≤ e ∧ e ≤ ts.length ∧ q ≤ ts.length := by rw [h89] at k89; exact k89
    exact ⟨by omega, by omega, by omega⟩
  · obtain ⟨_, _⟩ : i < j ∧ j ≤ ts.length := by rw [h89] at k89; exact k89
    try simp only
    rcases h90 : at? ts j 2 [119, 105, 116, 104] with _ | _
    · simp only [Bool.false_eq_true, if_false]
      first | exact ⟨by omega, by omega, by omega⟩ | exact ⟨by omega, by omega⟩
    · simp only [if_true]
      have := atl h90
      exact (qArms_ok ts he fr _ _ _ (j + 1) (by omega)).mono (by omega)
theorem qLetR_ok {ex : Nat → QR Ex} (he : ∀ j, j ≤ ts.length → QRok j ts.length (ex j)) (fr : Int) (i : Nat) (hi : i ≤ ts.length) : QRok i ts.length (qLetR ts ex fr i) := by
  unfold qLetR
  rcases h91 : at? ts i 2 [114, 101, 99] with _ | _
  · simp only [Bool.false_eq_true, if_false]
    exact qLet_ok ts he fr i hi
  · simp only [if_true]
    have := atl h91
    exact (qRec_ok ts he fr (i + 1) (by omega)).mono (by omega)
theorem qExprF_ok : ∀ (f : Nat) (i : Nat), i ≤ ts.length → QRok i ts.length (qExprF ts f i)
  | 0, i, hi => ⟨Nat.le_refl _, hi, hi⟩
  | f + 1, i, hi => by
    have he := qExprF_ok f
    unfold qExprF
    rcases h92 : at? ts i 2 [108, 101, 116] with _ | _
    · simp only [Bool.false_eq_true, if_false]
      rcases h93 : at? ts i 2 [102, 117, 110] with _ | _
      · simp only [Bool.false_eq_true, if_false]
        rcases h94 : at? ts i 2 [105, 102] with _ | _
        · simp only [Bool.false_eq_true, if_false]
          rcases h95 : at? ts i 2 [109, 97, 116, 99, 104] with _ | _
          · simp only [Bool.false_eq_true, if_false]
            exact qCmp_ok ts he i hi
          · simp only [if_true]
            have := atl h95
            exact (qMatch_ok ts he _ (i + 1) (by omega)).mono (by omega)
        · simp only [if_true]
          have := atl h94
          exact (qIf_ok ts he _ (i + 1) (by omega)).mono (by omega)
      · simp only [if_true]
        have := atl h93
        exact (qFun_ok ts he _ (i + 1) (by omega)).mono (by omega)
    · simp only [if_true]
      have := atl h92
      exact (qLetR_ok ts he _ (i + 1) (by omega)).mono (by omega)
end

end Go.Proofs.YtlagglkpbnbmeaaGreatDoor
