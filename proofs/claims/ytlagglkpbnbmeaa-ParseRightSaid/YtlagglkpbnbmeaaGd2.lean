/- The plain law of what is read: every reader of the model. No program in sight. -/
import Derived.Test.YtlagglkpbnbmeaaGd1
import Derived.Test.YtlagglkpbnbmeaaEb
namespace Go.Proofs.Ytlagglkpbnbmeaa
set_option linter.unusedVariables false
set_option linter.unusedSectionVars false
set_option maxRecDepth 100000

def QX {α : Type} (P : α → Nat → Prop) : QR α → Prop
  | .error _ => True
  | .ok (a, j) => P a j
theorem qxOk {α : Type} {P : α → Nat → Prop} {x : QR α} {a : α} {j : Nat} (k : QX P x) (h : x = .ok (a, j)) : P a j := by subst h; exact k
section
variable {N : Int} {n : Nat} {ts : List Tok} (ht : TokG N ts) (hn : 300 ≤ n) (hs : ts.length + 3 ≤ n)
include ht hn hs
theorem qTyp_g (i : Nat) (hi : i ≤ ts.length) : QX (fun t j => CL t ∧ t.size ≤ n ∧ i < j ∧ j ≤ ts.length) (qTyp ts i) := by
  have hok := qTyp_ok ts i hi
  have hsz := mRead_size ts i
  have hcl := mTypF_cl ((ts.drop i).length + 1) (ts.drop i)
  rcases h : qTyp ts i with e | ⟨t, j⟩
  · trivial
  · rw [h] at hok
    unfold qTyp at h
    split at h
    · rename_i h0
      cases h
      refine ⟨?_, by omega, hok.1, hok.2⟩
      unfold mRead at h0 ⊢
      rw [if_neg (by omega)] at h0 ⊢
      rw [Int.toNat_natCast, mTyp] at h0 ⊢
      rcases hx : mTypF ((ts.drop i).length + 1) (ts.drop i) with k | ⟨t, r⟩
      · rw [hx] at h0; simp at h0
      · rw [hx] at hcl; exact hcl
    · cases h
theorem qName_g (i : Nat) : QX (fun s j => mName s = true ∧ j = i + 1 ∧ i < ts.length) (qName ts i) := by
  unfold qName
  rcases h : of? ts i 1 with _ | _
  · trivial
  · exact ⟨name_of ht h, rfl, ofl h⟩
theorem ann_no : AnnOK n noTy := ⟨.inl (by decide), noTy_n ht hn⟩
theorem ann_cl {t : Ty} (h : CL t) (h2 : t.size ≤ n) : AnnOK n t := ⟨.inr h.ann, h2⟩
theorem qMaybe_g (i : Nat) (hi : i ≤ ts.length) : QX (fun t j => AnnOK n t ∧ i ≤ j ∧ j ≤ ts.length) (qMaybe ts i) := by
  unfold qMaybe
  rcases h : at? ts i 5 [58] with _ | _
  · exact ⟨ann_no ht hn hs, Nat.le_refl _, hi⟩
  · have := atl h
    simp only [if_true]
    rcases h2 : qTyp ts (i + 1) with e | ⟨t, j⟩
    · trivial
    · obtain ⟨c1, c2, c3, c4⟩ := qxOk (qTyp_g ht hn hs (i + 1) (by omega)) h2
      exact ⟨ann_cl ht hn hs c1 c2, by omega, c4⟩
theorem qParam_g (i : Nat) (hi : i ≤ ts.length) : QX (fun p j => mName p.1 = true ∧ AnnOK n p.2 ∧ i < j ∧ j ≤ ts.length) (qParam ts i) := by
  unfold qParam
  rcases h1 : at? ts i 5 [40] with _ | _
  · simp only [Bool.false_eq_true, if_false]
    rcases h2 : qName ts i with e | ⟨s, j⟩
    · trivial
    · obtain ⟨c1, c2, c3⟩ := qxOk (qName_g ht hn hs i) h2
      try simp only
      exact ⟨c1, ann_no ht hn hs, by omega, by omega⟩
  · simp only [if_true]
    have := atl h1
    rcases h3 : qName ts (i + 1) with e | ⟨s, j⟩
    · trivial
    · obtain ⟨c1, c2, c3⟩ := qxOk (qName_g ht hn hs (i + 1)) h3
      try simp only
      rcases h4 : at? ts j 5 [58] with _ | _
      · simp only [Bool.false_eq_true, if_false]
        trivial
      · simp only [if_true]
        have := atl h4
        rcases h5 : qTyp ts (j + 1) with e | ⟨t, k⟩
        · trivial
        · obtain ⟨c4, c5, c6, c7⟩ := qxOk (qTyp_g ht hn hs (j + 1) (by omega)) h5
          try simp only
          rcases h6 : at? ts k 5 [41] with _ | _
          · simp only [Bool.false_eq_true, if_false]
            trivial
          · simp only [if_true]
            have := atl h6
            exact ⟨c1, ann_cl ht hn hs c4 c5, by omega, by omega⟩
theorem qRing_g {pat : List (List UInt8) → Nat → QR (Pa × List (List UInt8))} (hp : ∀ seen j, QX (fun q k => GP n ts j k seen q.2 q.1) (pat seen j)) (seen : List (List UInt8)) (i : Nat) : QX (fun q k => GP n ts i k seen q.2 q.1) (qRing ts pat seen i) := by
  unfold qRing
  rcases q1 : at? ts (i + 1) 5 [41] with _ | _
  · simp only [Bool.false_eq_true, if_false]
    rcases h7 : pat seen (i + 1) with e | ⟨⟨a, seen1⟩, j⟩
    · trivial
    · have b1 := qxOk (hp seen (i + 1)) h7
      try simp only
      rcases q2 : at? ts j 5 [41] with _ | _
      · simp only [Bool.false_eq_true, if_false]
        rcases q3 : at? ts j 5 [44] with _ | _
        · simp only [Bool.false_eq_true, if_false]
          trivial
        · simp only [if_true]
          have := atl q3
          rcases h8 : pat seen1 (j + 1) with e | ⟨⟨b, seen2⟩, k⟩
          · trivial
          · have b2 := qxOk (hp seen1 (j + 1)) h8
            try simp only
            rcases q4 : at? ts k 5 [41] with _ | _
            · simp only [Bool.false_eq_true, if_false]
              trivial
            · simp only [if_true]
              have := atl q4
              exact p_pair ht hn b1 b2 q4
      · simp only [if_true]
        have := atl q2
        exact p_up ht hn b1 q2
  · simp only [if_true]
    have := atl q1
    exact p0 ht hn (by omega) (by omega) (by decide) (by simp) (by simp) (by simp [okPa, paSh, Pa.kind, Pa.nm, Pa.n, Pa.s, Pa.kids])
theorem qRound_g {pat : List (List UInt8) → Nat → QR (Pa × List (List UInt8))} (hp : ∀ seen j, QX (fun q k => GP n ts j k seen q.2 q.1) (pat seen j)) (seen : List (List UInt8)) (i : Nat) : QX (fun q k => GP n ts i k seen q.2 q.1) (qRound ts pat seen i) := by
  unfold qRound
  rcases q1 : at? ts i 5 [91] with _ | _
  · simp only [Bool.false_eq_true, if_false]
    exact qRing_g ht hn hs hp seen i
  · simp only [if_true]
    have := atl q1
    rcases q2 : at? ts (i + 1) 5 [93] with _ | _
    · simp only [Bool.false_eq_true, if_false]
      trivial
    · simp only [if_true]
      have := atl q2
      exact p0 ht hn (by omega) (by omega) (by decide) (by simp) (by simp) (by simp [okPa, paSh, Pa.kind, Pa.nm, Pa.n, Pa.s, Pa.kids])
theorem qPop_g {pat : List (List UInt8) → Nat → QR (Pa × List (List UInt8))} (hp : ∀ seen j, QX (fun q k => GP n ts j k seen q.2 q.1) (pat seen j)) (seen : List (List UInt8)) (i : Nat) : QX (fun q k => GP n ts i k seen q.2 q.1) (qPop ts pat seen i) := by
  unfold qPop
  rcases q1 : at? ts i 5 [95] with _ | _
  · simp only [Bool.false_eq_true, if_false]
    rcases q2 : of? ts i 1 with _ | _
    · simp only [Bool.false_eq_true, if_false]
      rcases q4 : of? ts i 3 with _ | _
      · simp only [Bool.false_eq_true, if_false]
        rcases q5 : of? ts i 4 with _ | _
        · simp only [Bool.false_eq_true, if_false]
          rcases q6 : at? ts i 2 [116, 114, 117, 101] with _ | _
          · simp only [Bool.false_eq_true, if_false]
            rcases q7 : at? ts i 2 [102, 97, 108, 115, 101] with _ | _
            · simp only [Bool.false_eq_true, if_false]
              rcases q8 : (at? ts i 5 [91] || at? ts i 5 [40]) with _ | _
              · simp only [Bool.false_eq_true, if_false]
                trivial
              · simp only [if_true]
                skip
                exact qRound_g ht hn hs hp seen i
            · simp only [if_true]
              have := atl q7
              exact p0 ht hn (by omega) (by omega) (by decide) (by simp) (by simp) (by simp [okPa, paSh, Pa.kind, Pa.nm, Pa.n, Pa.s, Pa.kids])
          · simp only [if_true]
            have := atl q6
            exact p0 ht hn (by omega) (by omega) (by decide) (by simp) (by simp) (by simp [okPa, paSh, Pa.kind, Pa.nm, Pa.n, Pa.s, Pa.kids])
        · simp only [if_true]
          have := ofl q5
          exact p0 ht hn (by omega) (by omega) (by decide) (by simp) (by have := text_of ht q5; omega) (by simp [okPa, paSh, Pa.kind, Pa.nm, Pa.n, Pa.s, Pa.kids, text_of ht q5])
      · simp only [if_true]
        have := ofl q4
        exact p0 ht hn (by omega) (by omega) (by decide) (by simp) (by simp) (by simp [okPa, paSh, Pa.kind, Pa.nm, Pa.n, Pa.s, Pa.kids])
    · simp only [if_true]
      have := ofl q2
      rcases q3 : seen.contains (strE ts i) with _ | _
      · simp only [Bool.false_eq_true, if_false]
        exact p_name ht hn q2 q3
      · simp only [if_true]
        skip
        trivial
  · simp only [if_true]
    have := atl q1
    exact p0 ht hn (by omega) (by omega) (by decide) (by simp) (by simp) (by simp [okPa, paSh, Pa.kind, Pa.nm, Pa.n, Pa.s, Pa.kids])
theorem qPatF_g : ∀ (f : Nat) (seen : List (List UInt8)) (i : Nat), QX (fun q k => GP n ts i k seen q.2 q.1) (qPatF ts f seen i)
  | 0, _, _ => trivial
  | f + 1, seen, i => by
    have hp := qPatF_g f
    unfold qPatF
    rcases h9 : qPop ts (qPatF ts f) seen i with e | ⟨⟨a, seen1⟩, j⟩
    · trivial
    · have b1 := qxOk (qPop_g ht hn hs hp seen i) h9
      try simp only
      rcases q1 : at? ts j 5 [58, 58] with _ | _
      · simp only [Bool.false_eq_true, if_false]
        exact b1
      · simp only [if_true]
        have := atl q1
        rcases h10 : qPatF ts f seen1 (j + 1) with e | ⟨⟨b, seen2⟩, k⟩
        · trivial
        · have b2 := qxOk (hp seen1 (j + 1)) h10
          try simp only
          exact p_cons ht hn b1 b2
theorem qParen_g {ex : Nat → QR Ex} (he : ∀ j, QX (fun e k => GE N n ts j k e) (ex j)) (i : Nat) : QX (fun e k => GE N n ts i k e) (qParen ts ex i) := by
  unfold qParen
  rcases h11 : ex (i + 1) with e | ⟨a, j⟩
  · trivial
  · have b1 := qxOk (he (i + 1)) h11
    try simp only
    rcases q1 : at? ts j 5 [41] with _ | _
    · simp only [Bool.false_eq_true, if_false]
      rcases q2 : at? ts j 5 [44] with _ | _
      · simp only [Bool.false_eq_true, if_false]
        rcases q4 : at? ts j 5 [58] with _ | _
        · simp only [Bool.false_eq_true, if_false]
          trivial
        · simp only [if_true]
          have := atl q4
          rcases h12 : qTyp ts (j + 1) with e | ⟨t, k⟩
          · trivial
          · obtain ⟨c1, c2, c3, c4⟩ := qxOk (qTyp_g ht hn hs (j + 1) (by omega)) h12
            try simp only
            rcases q5 : at? ts k 5 [41] with _ | _
            · simp only [Bool.false_eq_true, if_false]
              trivial
            · simp only [if_true]
              have := atl q5
              exact g_asc ht hn b1 (by omega) c1 c2 q5
      · simp only [if_true]
        have := atl q2
        rcases h13 : ex (j + 1) with e | ⟨b, k⟩
        · trivial
        · have b2 := qxOk (he (j + 1)) h13
          try simp only
          rcases q3 : at? ts k 5 [41] with _ | _
          · simp only [Bool.false_eq_true, if_false]
            trivial
          · simp only [if_true]
            have := atl q3
            exact g_pair ht hn b1 b2 q3
    · simp only [if_true]
      have := atl q1
      exact g_up ht hn b1 q1
theorem qRnd_g {ex : Nat → QR Ex} (he : ∀ j, QX (fun e k => GE N n ts j k e) (ex j)) (i : Nat) : QX (fun e k => GE N n ts i k e) (qRnd ts ex i) := by
  unfold qRnd
  rcases q1 : at? ts (i + 1) 5 [41] with _ | _
  · simp only [Bool.false_eq_true, if_false]
    exact qParen_g ht hn hs he i
  · simp only [if_true]
    have := atl q1
    exact g_void ht hn q1 (.inl rfl)
theorem qLeaf_g (i : Nat) : QX (fun e k => GE N n ts i k e) (qLeaf ts i) := by
  unfold qLeaf
  rcases q1 : of? ts i 1 with _ | _
  · simp only [Bool.false_eq_true, if_false]
    rcases q2 : of? ts i 3 with _ | _
    · simp only [Bool.false_eq_true, if_false]
      rcases q3 : of? ts i 4 with _ | _
      · simp only [Bool.false_eq_true, if_false]
        rcases q4 : at? ts i 2 [116, 114, 117, 101] with _ | _
        · simp only [Bool.false_eq_true, if_false]
          rcases q5 : at? ts i 2 [102, 97, 108, 115, 101] with _ | _
          · simp only [Bool.false_eq_true, if_false]
            trivial
          · simp only [if_true]
            have := atl q5
            exact g_bool ht hn q5 (.inl rfl)
        · simp only [if_true]
          have := atl q4
          exact g_bool ht hn q4 (.inr rfl)
      · simp only [if_true]
        have := ofl q3
        exact g_text ht hn q3
    · simp only [if_true]
      have := ofl q2
      exact g_num ht hn q2 _
  · simp only [if_true]
    have := ofl q1
    exact g_name ht hn q1
theorem qAtom_g {ex : Nat → QR Ex} (he : ∀ j, QX (fun e k => GE N n ts j k e) (ex j)) (i : Nat) : QX (fun e k => GE N n ts i k e) (qAtom ts ex i) := by
  have k := qLeaf_g ht hn hs i
  unfold qAtom
  rcases hl : qLeaf ts i with e | p
  · simp only
    rcases q1 : at? ts i 5 [91] with _ | _
    · simp only [Bool.false_eq_true, if_false]
      rcases q3 : at? ts i 5 [40] with _ | _
      · simp only [Bool.false_eq_true, if_false]
        trivial
      · simp only [if_true]
        have := atl q3
        exact qRnd_g ht hn hs he i
    · simp only [if_true]
      have := atl q1
      rcases q2 : at? ts (i + 1) 5 [93] with _ | _
      · simp only [Bool.false_eq_true, if_false]
        trivial
      · simp only [if_true]
        have := atl q2
        exact g_void ht hn q2 (.inr rfl)
  · rw [hl] at k
    exact k
theorem qAppL_g {ex : Nat → QR Ex} (he : ∀ j, QX (fun e k => GE N n ts j k e) (ex j)) (i0 : Nat) : ∀ (f : Nat) (a : Ex) (i : Nat), GE N n ts i0 i a → QX (fun e k => GE N n ts i0 k e) (qAppL ts ex f a i)
  | 0, _, i, _ => trivial
  | f + 1, a, i, ha => by
    unfold qAppL
    rcases q1 : eBegins ts i with _ | _
    · simp only [Bool.false_eq_true, if_false]
      exact ha
    · simp only [if_true]
      skip
      rcases h14 : qAtom ts ex i with e | ⟨b, j⟩
      · trivial
      · have b1 := qxOk (qAtom_g ht hn hs he i) h14
        try simp only
        exact qAppL_g he i0 f _ j (g_two ht hn ha b1 (Nat.le_refl _) (one_two ht hn (.inl ⟨.inr rfl, rfl⟩)))
theorem qApp_g {ex : Nat → QR Ex} (he : ∀ j, QX (fun e k => GE N n ts j k e) (ex j)) (i : Nat) : QX (fun e k => GE N n ts i k e) (qApp ts ex i) := by
  unfold qApp
  rcases h15 : qAtom ts ex i with e | ⟨a, j⟩
  · trivial
  · have b1 := qxOk (qAtom_g ht hn hs he i) h15
    try simp only
    exact qAppL_g ht hn hs he i _ _ j b1
theorem qProdL_g {ex : Nat → QR Ex} (he : ∀ j, QX (fun e k => GE N n ts j k e) (ex j)) (i0 : Nat) : ∀ (f : Nat) (a : Ex) (i : Nat), GE N n ts i0 i a → QX (fun e k => GE N n ts i0 k e) (qProdL ts ex f a i)
  | 0, _, i, _ => trivial
  | f + 1, a, i, ha => by
    unfold qProdL
    rcases q1 : at? ts i 5 [42] with _ | _
    · simp only [Bool.false_eq_true, if_false]
      rcases q2 : at? ts i 5 [47] with _ | _
      · simp only [Bool.false_eq_true, if_false]
        exact ha
      · simp only [if_true]
        have := atl q2
        rcases h16 : qApp ts ex (i + 1) with e | ⟨b, j⟩
        · trivial
        · have b1 := qxOk (qApp_g ht hn hs he (i + 1)) h16
          try simp only
          exact qProdL_g he i0 f _ j (g_two ht hn ha b1 (by omega) (one_two ht hn (.inr ⟨rfl, by decide, by decide⟩)))
    · simp only [if_true]
      have := atl q1
      rcases h17 : qApp ts ex (i + 1) with e | ⟨b, j⟩
      · trivial
      · have b1 := qxOk (qApp_g ht hn hs he (i + 1)) h17
        try simp only
        exact qProdL_g he i0 f _ j (g_two ht hn ha b1 (by omega) (one_two ht hn (.inr ⟨rfl, by decide, by decide⟩)))
theorem qProd_g {ex : Nat → QR Ex} (he : ∀ j, QX (fun e k => GE N n ts j k e) (ex j)) (i : Nat) : QX (fun e k => GE N n ts i k e) (qProd ts ex i) := by
  unfold qProd
  rcases h18 : qApp ts ex i with e | ⟨a, j⟩
  · trivial
  · have b1 := qxOk (qApp_g ht hn hs he i) h18
    try simp only
    exact qProdL_g ht hn hs he i _ _ j b1
theorem qSumL_g {ex : Nat → QR Ex} (he : ∀ j, QX (fun e k => GE N n ts j k e) (ex j)) (i0 : Nat) : ∀ (f : Nat) (a : Ex) (i : Nat), GE N n ts i0 i a → QX (fun e k => GE N n ts i0 k e) (qSumL ts ex f a i)
  | 0, _, i, _ => trivial
  | f + 1, a, i, ha => by
    unfold qSumL
    rcases q1 : at? ts i 5 [43] with _ | _
    · simp only [Bool.false_eq_true, if_false]
      rcases q2 : at? ts i 5 [45] with _ | _
      · simp only [Bool.false_eq_true, if_false]
        exact ha
      · simp only [if_true]
        have := atl q2
        rcases h19 : qProd ts ex (i + 1) with e | ⟨b, j⟩
        · trivial
        · have b1 := qxOk (qProd_g ht hn hs he (i + 1)) h19
          try simp only
          exact qSumL_g he i0 f _ j (g_two ht hn ha b1 (by omega) (one_two ht hn (.inr ⟨rfl, by decide, by decide⟩)))
    · simp only [if_true]
      have := atl q1
      rcases h20 : qProd ts ex (i + 1) with e | ⟨b, j⟩
      · trivial
      · have b1 := qxOk (qProd_g ht hn hs he (i + 1)) h20
        try simp only
        exact qSumL_g he i0 f _ j (g_two ht hn ha b1 (by omega) (one_two ht hn (.inr ⟨rfl, by decide, by decide⟩)))
theorem qSum_g {ex : Nat → QR Ex} (he : ∀ j, QX (fun e k => GE N n ts j k e) (ex j)) (i : Nat) : QX (fun e k => GE N n ts i k e) (qSum ts ex i) := by
  unfold qSum
  rcases h21 : qProd ts ex i with e | ⟨a, j⟩
  · trivial
  · have b1 := qxOk (qProd_g ht hn hs he i) h21
    try simp only
    exact qSumL_g ht hn hs he i _ _ j b1
theorem qConsF_g {ex : Nat → QR Ex} (he : ∀ j, QX (fun e k => GE N n ts j k e) (ex j)) : ∀ (f : Nat) (i : Nat), QX (fun e k => GE N n ts i k e) (qConsF ts ex f i)
  | 0, i => trivial
  | f + 1, i => by
    unfold qConsF
    rcases h22 : qSum ts ex i with e | ⟨a, j⟩
    · trivial
    · have b1 := qxOk (qSum_g ht hn hs he i) h22
      try simp only
      rcases q1 : at? ts j 5 [58, 58] with _ | _
      · simp only [Bool.false_eq_true, if_false]
        exact b1
      · simp only [if_true]
        have := atl q1
        rcases h23 : qConsF ts ex f (j + 1) with e | ⟨b, k⟩
        · trivial
        · have b2 := qxOk (qConsF_g he f (j + 1)) h23
          try simp only
          exact g_two ht hn b1 b2 (by omega) (one_two ht hn (.inl ⟨.inl rfl, rfl⟩))
theorem qCmp_g {ex : Nat → QR Ex} (he : ∀ j, QX (fun e k => GE N n ts j k e) (ex j)) (i : Nat) : QX (fun e k => GE N n ts i k e) (qCmp ts ex i) := by
  unfold qCmp qCons
  rcases h24 : qConsF ts ex (ts.length + 1) i with e | ⟨a, j⟩
  · trivial
  · have b1 := qxOk (qConsF_g ht hn hs he (ts.length + 1) i) h24
    try simp only
    rcases q1 : at? ts j 5 [60] with _ | _
    · simp only [Bool.false_eq_true, if_false]
      rcases q2 : at? ts j 5 [61] with _ | _
      · simp only [Bool.false_eq_true, if_false]
        rcases q3 : at? ts j 5 [61, 61] with _ | _
        · simp only [Bool.false_eq_true, if_false]
          exact b1
        · simp only [if_true]
          have := atl q3
          rcases h25 : qConsF ts ex (ts.length + 1) (j + 1) with e | ⟨b, k⟩
          · trivial
          · have b2 := qxOk (qConsF_g ht hn hs he (ts.length + 1) (j + 1)) h25
            try simp only
            exact g_two ht hn b1 b2 (by omega) (one_two ht hn (.inr ⟨rfl, by decide, by decide⟩))
      · simp only [if_true]
        have := atl q2
        rcases h26 : qConsF ts ex (ts.length + 1) (j + 1) with e | ⟨b, k⟩
        · trivial
        · have b2 := qxOk (qConsF_g ht hn hs he (ts.length + 1) (j + 1)) h26
          try simp only
          exact g_two ht hn b1 b2 (by omega) (one_two ht hn (.inr ⟨rfl, by decide, by decide⟩))
    · simp only [if_true]
      have := atl q1
      rcases h27 : qConsF ts ex (ts.length + 1) (j + 1) with e | ⟨b, k⟩
      · trivial
      · have b2 := qxOk (qConsF_g ht hn hs he (ts.length + 1) (j + 1)) h27
        try simp only
        exact g_two ht hn b1 b2 (by omega) (one_two ht hn (.inr ⟨rfl, by decide, by decide⟩))
theorem qBody_g {ex : Nat → QR Ex} (he : ∀ j, QX (fun e k => GE N n ts j k e) (ex j)) (i : Nat) : QX (fun p m => ∃ i1 j k, i < i1 ∧ j ≤ k ∧ GE N n ts i1 j p.1 ∧ GE N n ts k m p.2) (qBody ts ex i) := by
  unfold qBody
  rcases q1 : at? ts i 5 [61] with _ | _
  · simp only [Bool.false_eq_true, if_false]
    trivial
  · simp only [if_true]
    have := atl q1
    rcases h28 : ex (i + 1) with e | ⟨a, j⟩
    · trivial
    · have b1 := qxOk (he (i + 1)) h28
      try simp only
      rcases q2 : at? ts j 2 [105, 110] with _ | _
      · simp only [Bool.false_eq_true, if_false]
        trivial
      · simp only [if_true]
        have := atl q2
        rcases h29 : ex (j + 1) with e | ⟨b, k⟩
        · trivial
        · have b2 := qxOk (he (j + 1)) h29
          try simp only
          exact ⟨_, _, _, by omega, by omega, b1, b2⟩
theorem qLet_g {ex : Nat → QR Ex} (he : ∀ j, QX (fun e k => GE N n ts j k e) (ex j)) (i0 i : Nat) (hi : i0 ≤ i) : QX (fun e k => GE N n ts i0 k e) (qLet ts ex (frE ts i0) i) := by
  unfold qLet
  rcases h30 : qName ts i with e | ⟨s, j⟩
  · trivial
  · obtain ⟨c1, c2, c3⟩ := qxOk (qName_g ht hn hs i) h30
    try simp only
    rcases h31 : qMaybe ts j with e | ⟨t, k⟩
    · trivial
    · obtain ⟨c4, c5, c6⟩ := qxOk (qMaybe_g ht hn hs j (by omega)) h31
      try simp only
      rcases h32 : qBody ts ex k with e | ⟨⟨a, b⟩, m⟩
      · trivial
      · obtain ⟨i1, j1, k1, d1, d2, b8, b9⟩ := qxOk (qBody_g ht hn hs he k) h32
        try simp only
        exact g_let ht hn b8 b9 (by omega) d2 c1 c4
theorem qRec_g {ex : Nat → QR Ex} (he : ∀ j, QX (fun e k => GE N n ts j k e) (ex j)) (i0 i : Nat) (hi : i0 ≤ i) : QX (fun e k => GE N n ts i0 k e) (qRec ts ex (frE ts i0) i) := by
  unfold qRec
  rcases h33 : qName ts i with e | ⟨s, j⟩
  · trivial
  · obtain ⟨c1, c2, c3⟩ := qxOk (qName_g ht hn hs i) h33
    try simp only
    rcases h34 : qParam ts j with e | ⟨⟨g, t⟩, k⟩
    · trivial
    · obtain ⟨c4, c5, c6, c7⟩ := qxOk (qParam_g ht hn hs j (by omega)) h34
      try simp only
      rcases h35 : qMaybe ts k with e | ⟨u, l⟩
      · trivial
      · obtain ⟨c8, c9, c10⟩ := qxOk (qMaybe_g ht hn hs k (by omega)) h35
        try simp only
        rcases h36 : qBody ts ex l with e | ⟨⟨a, b⟩, m⟩
        · trivial
        · obtain ⟨i1, j1, k1, d1, d2, b8, b9⟩ := qxOk (qBody_g ht hn hs he l) h36
          try simp only
          exact g_rec ht hn b8 b9 (by omega) d2 c1 c4 c5 c8
theorem qLetR_g {ex : Nat → QR Ex} (he : ∀ j, QX (fun e k => GE N n ts j k e) (ex j)) (i0 i : Nat) (hi : i0 ≤ i) : QX (fun e k => GE N n ts i0 k e) (qLetR ts ex (frE ts i0) i) := by
  unfold qLetR
  rcases q1 : at? ts i 2 [114, 101, 99] with _ | _
  · simp only [Bool.false_eq_true, if_false]
    exact qLet_g ht hn hs he i0 _ hi
  · simp only [if_true]
    have := atl q1
    exact qRec_g ht hn hs he i0 _ (by omega)
theorem qFun_g {ex : Nat → QR Ex} (he : ∀ j, QX (fun e k => GE N n ts j k e) (ex j)) (i0 i : Nat) (hi : i0 ≤ i) (hil : i ≤ ts.length) : QX (fun e k => GE N n ts i0 k e) (qFun ts ex (frE ts i0) i) := by
  unfold qFun
  rcases h37 : qParam ts i with e | ⟨⟨s, t⟩, j⟩
  · trivial
  · obtain ⟨c1, c2, c3, c4⟩ := qxOk (qParam_g ht hn hs i hil) h37
    try simp only
    rcases q1 : at? ts j 5 [45, 62] with _ | _
    · simp only [Bool.false_eq_true, if_false]
      trivial
    · simp only [if_true]
      have := atl q1
      rcases h38 : ex (j + 1) with e | ⟨b, k⟩
      · trivial
      · have b2 := qxOk (he (j + 1)) h38
        try simp only
        exact g_fun ht hn b2 (by omega) c1 c2
theorem qIf_g {ex : Nat → QR Ex} (he : ∀ j, QX (fun e k => GE N n ts j k e) (ex j)) (i0 i : Nat) (hi : i0 ≤ i) : QX (fun e k => GE N n ts i0 k e) (qIf ts ex (frE ts i0) i) := by
  unfold qIf qIfS
  rcases h1 : ex i with e | ⟨a, j⟩
  · trivial
  · have b1 := qxOk (he i) h1
    simp only
    rw [if_neg (by decide)]
    rcases q1 : at? ts j 2 [116, 104, 101, 110] with _ | _
    · trivial
    · have := atl q1
      simp only [if_true]
      unfold qIfS
      rcases h2 : ex (j + 1) with e | ⟨b, k⟩
      · trivial
      · have b2 := qxOk (he (j + 1)) h2
        simp only
        rw [if_neg (by decide)]
        rcases q2 : at? ts k 2 [101, 108, 115, 101] with _ | _
        · trivial
        · have := atl q2
          simp only [if_true]
          unfold qIfS
          rcases h3 : ex (k + 1) with e | ⟨c, m⟩
          · trivial
          · have b3 := qxOk (he (k + 1)) h3
            simp only [if_true]
            unfold qIfS
            exact g_if ht hn b1 b2 b3 hi (by omega) (by omega)
/-- the arms that were read -/
def GA (i0 j : Nat) (ps : List Pa) (es : List Ex) : Prop := i0 < j ∧ j ≤ ts.length ∧ ∃ (x : Ex) (l : List (Pa × Ex)) (y : Int), es = x :: l.map (·.2) ∧ ps = l.map (·.1) ∧ frE ts i0 ≤ x.fr ∧ insE N x = true ∧ Ch N x.to l y ∧ y ≤ behE ts j ∧ (∀ e, e ∈ es → mCheck e = true ∧ ExK n e) ∧ (∀ p, p ∈ ps → mCheckPat p = true ∧ PaK n p) ∧ l.length ≤ j
end
section
variable {N : Int} {n : Nat} {ts : List Tok} (ht : TokG N ts) (hn : 300 ≤ n) (hs : ts.length + 300 ≤ n)
include ht hn hs
theorem qEnd_g (i0 k : Nat) (ps : List Pa) (es : List Ex) (h : GA (N := N) (n := n) (ts := ts) i0 k ps es) (hne : ps ≠ []) : QX (fun e k => GE N n ts i0 k e) (qEnd ts (frE ts i0) ps es k) := by
  unfold qEnd
  rcases q1 : at? ts k 2 [101, 110, 100] with _ | _
  · trivial
  · have hk := atl q1
    obtain ⟨g1, g2, x, l, y, he, hp, h1, h2, h3, h4, h5, h6, h7⟩ := h
    have f1 := insE_facts h2
    have f2 := h3.le
    have f3 := pbb ht (j := k) (m := k + 1) (by omega) (by omega) (by omega)
    have f4 := pbN ht (j := k + 1) (by omega) (by omega)
    have f5 := pf0 ht i0
    refine ⟨by omega, by omega, Int.le_refl _, Int.le_refl _, ?_, ?_, ?_⟩
    · subst he hp
      rw [insE, insL_non1, List.map_map]
      have h8 := h3.ins (b := behE ts (k + 1)) (by omega)
      simp only [Function.comp_def, h8, h2]
      simp [f5, f4, show frE ts i0 < behE ts (k + 1) by omega, h1, show x.to ≤ behE ts (k + 1) by omega]
    · rw [check_mk, Bool.and_eq_true]
      refine ⟨?_, List.all_eq_true.2 fun e he' => (h5 e he').1⟩
      have c1 : ps.all mCheckPat = true := List.all_eq_true.2 fun p hp' => (h6 p hp').1
      have c2 : (es.length : Int) = (ps.length : Int) + 1 := by subst he hp; simp
      have c3 : 0 < ps.length := by
        cases ps with
        | nil => exact absurd rfl hne
        | cons => simp
      have c4 : mNone noTy = true := by decide
      simp [oneE, shOf, k2, k4, k6, k8, k10, k12, k14, k16, Ex.kind, Ex.nm, Ex.arg, Ex.n, Ex.s, Ex.op, Ex.A, Ex.B, Ex.pats, Ex.kids, c1, c2, c3, c4]
    · exact .mk (by simp) (by simp) (by simp) (noTy_n ht hn) (noTy_n ht hn) (by subst hp; simp; omega) (by subst he; simp; omega) (fun p hp' => (h6 p hp').2) (fun e he' => (h5 e he').2)
theorem qArms_g {ex : Nat → QR Ex} (he : ∀ j, QX (fun e k => GE N n ts j k e) (ex j)) (i0 : Nat) : ∀ (f : Nat) (ps : List Pa) (es : List Ex) (i : Nat), 0 < i → GA (N := N) (n := n) (ts := ts) i0 (i - 1) ps es → QX (fun e k => GE N n ts i0 k e) (qArms ts ex (frE ts i0) f ps es i)
  | 0, _, _, i, _, _ => trivial
  | f + 1, ps, es, i, h0, h => by
    unfold qArms
    rcases g1 : qPatF ts (ts.length + 1) [] i with e | ⟨⟨p, s⟩, j⟩
    · trivial
    · have b1 : GP n ts i j [] s p := qxOk (qPatF_g ht hn (by omega) (ts.length + 1) [] i) g1
      simp only
      rcases g2 : at? ts j 5 [45, 62] with _ | _
      · trivial
      · have hj := atl g2
        simp only [if_true]
        rcases g3 : ex (j + 1) with e | ⟨a, k⟩
        · trivial
        · have b2 := qxOk (he (j + 1)) g3
          simp only
          have hnew : GA (N := N) (n := n) (ts := ts) i0 k (ps ++ [p]) (es ++ [a]) := by
            obtain ⟨d1, d2, x, l, y, e1, e2, e3, e4, e5, e6, e7, e8, e9⟩ := h
            obtain ⟨p1, p2, p3, p4, p5, p6, p7⟩ := b1
            obtain ⟨a1, a2, a3, a4, a5, a6, a7⟩ := b2
            have f1 := pbf ht (j := i - 1) (m := i) (by omega) (by omega) (by omega)
            have f2 := pbf ht (j := j) (m := j + 1) (by omega) (by omega) (by omega)
            refine ⟨by omega, a2, x, l ++ [(p, a)], a.to, by rw [e1]; simp, by rw [e2]; simp, e3, e4, e5.snoc (by omega) p5 (by omega) a5, a4, fun e' he' => ?_, fun p' hp' => ?_, by simp; omega⟩
            · rcases List.mem_append.1 he' with h | h
              · exact e7 e' h
              · simp at h; rw [h]; exact ⟨a6, a7⟩
            · rcases List.mem_append.1 hp' with h | h
              · exact e8 p' h
              · simp at h; rw [h]; exact ⟨by unfold mCheckPat; rw [p6], p7⟩
          rcases g4 : at? ts k 5 [124] with _ | _
          · simp only [Bool.false_eq_true, if_false]
            exact qEnd_g ht hn hs i0 k _ _ hnew (by simp)
          · simp only [if_true]
            exact qArms_g he i0 f _ _ (k + 1) (by omega) (by rw [Nat.add_sub_cancel]; exact hnew)
theorem qMatch_g {ex : Nat → QR Ex} (he : ∀ j, QX (fun e k => GE N n ts j k e) (ex j)) (i0 i : Nat) (hi : i0 ≤ i) : QX (fun e k => GE N n ts i0 k e) (qMatch ts ex (frE ts i0) i) := by
  unfold qMatch
  rcases g1 : ex i with e | ⟨x, j⟩
  · trivial
  · have b1 := qxOk (he i) g1
    simp only
    rcases g2 : at? ts j 2 [119, 105, 116, 104] with _ | _
    · trivial
    · have hj := atl g2
      simp only [if_true]
      obtain ⟨a1, a2, a3, a4, a5, a6, a7⟩ := b1
      have := pff ht (i := i0) (m := i) hi (by omega)
      exact qArms_g ht hn hs he i0 _ _ _ (j + 1) (by omega) ⟨by omega, by omega, x, [], x.to, rfl, rfl, by omega, a5, .nil _, by rw [Nat.add_sub_cancel]; exact a4, fun e he' => (by simp at he'; rw [he']; exact ⟨a6, a7⟩), fun p hp' => (by simp at hp'), by simp⟩
theorem qExprF_g : ∀ (f : Nat) (i : Nat), QX (fun e k => GE N n ts i k e) (qExprF ts f i)
  | 0, i => trivial
  | f + 1, i => by
    have he := qExprF_g f
    unfold qExprF
    rcases q1 : at? ts i 2 [108, 101, 116] with _ | _
    · simp only [Bool.false_eq_true, if_false]
      rcases q2 : at? ts i 2 [102, 117, 110] with _ | _
      · simp only [Bool.false_eq_true, if_false]
        rcases q3 : at? ts i 2 [105, 102] with _ | _
        · simp only [Bool.false_eq_true, if_false]
          rcases q4 : at? ts i 2 [109, 97, 116, 99, 104] with _ | _
          · simp only [Bool.false_eq_true, if_false]
            exact qCmp_g ht hn (by omega) he i
          · simp only [if_true]
            exact qMatch_g ht hn hs he i (i + 1) (by omega)
        · simp only [if_true]
          exact qIf_g ht hn (by omega) he i (i + 1) (by omega)
      · have := atl q2
        simp only [if_true]
        exact qFun_g ht hn (by omega) he i (i + 1) (by omega) (by omega)
    · simp only [if_true]
      exact qLetR_g ht hn (by omega) he i (i + 1) (by omega)
end
/-- what a source is read as is right, its parts stand in order -/
theorem parse_good {bs : List UInt8} {e : Ex} (hl : bs.length ≤ 16000) (h : mParse bs = .ok e) : insE (bs.length : Int) e = true ∧ mCheck e = true ∧ ExK 1000000000 e := by
  unfold mParse at h
  rcases hs : mScan bs with k | ts
  · rw [hs] at h; cases h
  · rw [hs] at h
    simp only at h
    have hlen := mScan_len hs
    have ht := tokG_of (by omega) hs
    rcases hx : qExprF ts (ts.length + 1) 0 with ⟨j, q⟩ | ⟨e', j⟩
    · rw [hx] at h; simp only at h; split at h <;> cases h
    · rw [hx] at h
      simp only at h
      split at h
      · cases h
        obtain ⟨_, _, _, _, h1, h2, h3⟩ := qxOk (qExprF_g ht (n := 1000000000) (by omega) (by omega) (ts.length + 1) 0) hx
        exact ⟨h1, h2, h3⟩
      · cases h
theorem parse_bad {bs : List UInt8} {x y : Int} (hl : bs.length ≤ 16000) (h : mParse bs = .error (x, y)) : y = 3 ∧ 0 ≤ x ∧ x ≤ (bs.length : Int) := by
  unfold mParse at h
  rcases hs : mScan bs with k | ts
  · rw [hs] at h
    cases h
    rw [mScan_small (by omega)] at hs
    have := scan_ahead hs
    omega
  · rw [hs] at h
    simp only at h
    have ht := tokG_of (by omega) hs
    have hfr : ∀ j, j ≤ ts.length → frE ts j ≤ (bs.length : Int) := fun j hj => by
      unfold frE
      cases hj2 : ts[j]? with
      | none => simp
      | some t =>
        have h1 := (ht.own j t hj2).1
        have h2 := (ht.own j t hj2).2.1
        simp only
        omega
    have hok := qExprF_ok ts (ts.length + 1) 0 (Nat.zero_le _)
    rcases hx : qExprF ts (ts.length + 1) 0 with ⟨j, q⟩ | ⟨e', j⟩
    · rw [hx] at h hok
      simp only at h
      split at h <;> cases h
      · exact ⟨rfl, by omega, by omega⟩
      · exact ⟨rfl, pf0 ht _, hfr _ hok.2.1⟩
    · rw [hx] at h hok
      simp only at h
      split at h
      · cases h
      · cases h
        exact ⟨rfl, pf0 ht _, hfr _ hok.2⟩

end Go.Proofs.Ytlagglkpbnbmeaa
