/- The program's reader of expressions: patterns, if, match, the whole. -/
import Derived.Test.YtlagglkpbnbmeaaGreatDoorShC
import Derived.Test.YtlagglkpbnbmeaaGreatDoorEp4
namespace Go.Proofs.YtlagglkpbnbmeaaGreatDoor
open Go Go.RowKit
set_option maxRecDepth 100000
set_option maxHeartbeats 2000000
set_option linter.unusedVariables false
set_option linter.unusedSimpArgs false

def seenV (l : List (List UInt8)) : List (Value × Int) := l.map fun s => (str s, 1)
def seenF (l : List (List UInt8)) : F := .var mapT (vmap (seenV l))
theorem seenV_snoc (l : List (List UInt8)) (s : List UInt8) : seenV (l ++ [s]) = seenV l ++ [(str s, 1)] := by simp [seenV]
theorem seenV_key {l : List (List UInt8)} : ∀ p, p ∈ seenV l → MapKept.IsKey .string p.1 := fun p hp => by
  obtain ⟨s, _, rfl⟩ := List.mem_map.1 hp
  trivial
theorem str_inj' {a b : List UInt8} (h : str a = str b) : a = b := by
  have h1 : (⟨a.toArray⟩ : ByteArray) = ⟨b.toArray⟩ := by injection h
  injection h1 with h2
  simpa using h2
theorem seenV_no {l : List (List UInt8)} {s : List UInt8} (h : l.contains s = false) : ∀ p, p ∈ seenV l → p.1 ≠ str s := fun p hp e => by
  obtain ⟨t, ht, rfl⟩ := List.mem_map.1 hp; have := str_inj' e; subst this; have h2 : l.contains t = true := List.contains_iff_mem.2 ht; rw [h] at h2; cases h2
theorem seenV_yes {l : List (List UInt8)} {s : List UInt8} (h : l.contains s = true) : (∃ p, p ∈ seenV l ∧ p.1 = str s) ∧ ∀ p, p ∈ seenV l → p.1 = str s → p.2 = 1 :=
  ⟨⟨(str s, 1), List.mem_map.2 ⟨s, List.contains_iff_mem.1 h, rfl⟩, rfl⟩, fun p hp _ => by obtain ⟨t, _, rfl⟩ := List.mem_map.1 hp; rfl⟩
theorem pasD_len (l : List Pa) : (pasD l).length = l.length := by rw [pasD_map]; simp
def patE (p : Pa × List (List UInt8)) : List E := [.agg (paX p.1)]
def outP (ts : List Tok) : QR (Pa × List (List UInt8)) → List (Nat × F)
  | .error e => [(3000, eRdr ts e.1)]
  | .ok ((_, s), j) => [(3000, eRdr ts j), (3001, seenF s)]
abbrev paB (fr : Int) : Pa := .mk 0 fr 0 [] 0 [] []
theorem of_seen (ts : List Tok) (i : Nat) (l : List (List UInt8)) : of? ts i 1 = false ∨ (of? ts i 1 = true ∧ l.contains (strE ts i) = true) ∨ (of? ts i 1 = true ∧ l.contains (strE ts i) = false) := by
  cases of? ts i 1 <;> cases l.contains (strE ts i) <;> simp
def PatE (ts : List Tok) (g : Nat) : Prop := ∀ (seen : List (List UInt8)) (i : Nat), i ≤ ts.length → ts.length - i < g → ∀ M, qPatF ts g seen i = M → Con Tryz.prog 120 [.ptr 3000 0, .ptr 3001 mapT] [(3000, eRdr ts i), (3001, seenF seen)] (retQ patE [.agg paJ] M) (outP ts M)

theorem eRound (ts : List Tok) (g : Nat) (hm : ts.length ≤ 1000000000) (hP : PatE ts g) (seen : List (List UInt8)) (i : Nat) (hi : i ≤ ts.length) (hf : ts.length - i < g + 1) (hb : i < ts.length) (hk : at? ts i 5 [91] = true ∨ at? ts i 5 [40] = true) {M : QR (Pa × List (List UInt8))} (hM : qRound ts (qPatF ts g) seen i = M) : Con Tryz.prog 149 [.ptr 3000 0, .agg (paX (paB (frE ts i))), .ptr 3001 mapT] [(3000, eRdr ts i), (3001, seenF seen)] (retQ patE [.agg paJ] M) (outP ts M) := by
  unfold qRound qRing at hM; refine con_intro rfl rfl (by kernel_rfl) (by rcases M with _ | ⟨⟨_, _⟩, _⟩ <;> kernel_rfl) ?_; refine gg [5,22,2004,24,2006,1,0,9,9,3001,3000,2006,2004,7,6,4,2,0,31,5,2] ?_
  rcases h1 : at? ts i 5 [91] with _ | _
  · try simp only [h1, if_true, if_false, Bool.false_eq_true] at hM
    refine gc (eSignF ts i [91] hm h1) [0,9,10,3001,3000,2006,2004,12,7,6,4,2,0,8,34,5,2,13,6,1,1,7,27,13,6,1,1,11,0,9,9,3001,3000,2006,2004,7,6,4,2,0,31,5,2] ?_
    rcases h2 : at? ts (i + 1) 5 [41] with _ | _
    · try simp only [h2, if_true, if_false, Bool.false_eq_true] at hM
      refine gc (eSignF ts (i + 1) [41] hm h2) [0,9,10,3001,3000,2006,2004,31,7,6,4,2,0,8,34,5,2,2] ?_
      rcases h3 : qPatF ts g seen (i + 1) with ⟨e3, q3⟩ | ⟨⟨a3, z3⟩, j3⟩
      · simp only [h3, if_true, if_false, Bool.false_eq_true] at hM; obtain ⟨_, _, _⟩ := okE (qPatF_ok ts g seen (i + 1) (by omega)) h3; refine gc (hP seen (i + 1) (by omega) (by omega) _ h3) [2,14,14,24,2008,10,1,0,9,11,3000,2008,2006,2004,9,8,7,6,4,2,0,31,5,2,15,2,3,3,16,0,9,12,3000,2008,2006,2004,49,9,8,7,6,4,2,0,32,5,20,7,2,10,1,0,9,11,3000,2008,2006,2004,9,8,7,6,4,2,0,33] ?_; subst hM; first | exact ⟨.inl rfl, _, rfl, .refl _, rfl, trivial⟩ | exact ⟨.inl rfl, _, rfl, .refl _, rfl, rfl, trivial⟩ | exact ⟨.inl rfl, _, rfl, .tup ⟨.agg ⟨.any _, .any _, .any _, .any _, .any _, .any _, .any _, trivial⟩, .refl _, trivial⟩, rfl, trivial⟩
      simp only [h3, if_true, if_false, Bool.false_eq_true] at hM; obtain ⟨_, _⟩ := okO (qPatF_ok ts g seen (i + 1) (by omega)) h3; refine gc (hP seen (i + 1) (by omega) (by omega) _ h3) [2,14,14,24,2008,10,1,0,9,12,3001,3000,2008,2006,2004,9,8,7,6,4,2,0,31,5,2,15,2,2] ?_
      rcases h4 : at? ts j3 5 [41] with _ | _
      · try simp only [h4, if_true, if_false, Bool.false_eq_true] at hM
        refine gc (eSignF ts j3 [41] hm h4) [17,0,9,13,3001,3000,2008,2006,2004,49,9,8,7,6,4,2,0,8,34,31,5,2] ?_
        rcases h5 : at? ts j3 5 [44] with _ | _
        · try simp only [h5, if_true, if_false, Bool.false_eq_true] at hM
          refine gc (eSignF ts j3 [44] hm h5) [15,0,9,13,3001,3000,2008,2006,2004,54,9,8,7,6,4,2,0,32,5,20,7,10,1,0,9,12,3001,3000,2008,2006,2004,9,8,7,6,4,2,0,33] ?_; subst hM; first | exact ⟨.inl rfl, _, rfl, .refl _, rfl, trivial⟩ | exact ⟨.inl rfl, _, rfl, .refl _, rfl, rfl, trivial⟩ | exact ⟨.inl rfl, _, rfl, .tup ⟨.agg ⟨.any _, .any _, .any _, .any _, .any _, .any _, .any _, trivial⟩, .refl _, trivial⟩, rfl, trivial⟩
        try simp only [h5, if_true, if_false, Bool.false_eq_true] at hM
        have := atl h5; refine gc (eSignT ts j3 [44] hm h5) [15,0,9,13,3001,3000,2008,2006,2004,54,9,8,7,6,4,2,0,8,34,5,2,2] ?_
        rcases h6 : qPatF ts g z3 (j3 + 1) with ⟨e6, q6⟩ | ⟨⟨a6, z6⟩, j6⟩
        · simp only [h6, if_true, if_false, Bool.false_eq_true] at hM; obtain ⟨_, _, _⟩ := okE (qPatF_ok ts g z3 (j3 + 1) (by omega)) h6; refine gc (hP z3 (j3 + 1) (by omega) (by omega) _ h6) [2,14,14,24,2010,10,1,0,9,12,3000,2010,2008,2006,2004,10,9,8,7,6,4,0,31,5,2,15,2,39,3,16,0,9,12,3000,2010,2008,2006,2004,68,10,8,7,6,4,0,32,5,20,7,10,1,0,9,11,3000,2010,2008,2006,2004,10,8,7,6,4,0,33] ?_; subst hM; first | exact ⟨.inl rfl, _, rfl, .refl _, rfl, trivial⟩ | exact ⟨.inl rfl, _, rfl, .refl _, rfl, rfl, trivial⟩ | exact ⟨.inl rfl, _, rfl, .tup ⟨.agg ⟨.any _, .any _, .any _, .any _, .any _, .any _, .any _, trivial⟩, .refl _, trivial⟩, rfl, trivial⟩
        simp only [h6, if_true, if_false, Bool.false_eq_true] at hM; obtain ⟨_, _⟩ := okO (qPatF_ok ts g z3 (j3 + 1) (by omega)) h6; refine gc (hP z3 (j3 + 1) (by omega) (by omega) _ h6) [2,14,14,24,2010,10,1,0,9,13,3001,3000,2010,2008,2006,2004,10,9,8,7,6,4,0,31,5,2,15,2,2] ?_
        rcases h7 : at? ts j6 5 [41] with _ | _
        · try simp only [h7, if_true, if_false, Bool.false_eq_true] at hM
          refine gc (eSignF ts j6 [41] hm h7) [15,17,0,9,13,3001,3000,2010,2008,2006,2004,68,10,8,7,6,4,0,32,5,20,7,10,1,0,9,12,3001,3000,2010,2008,2006,2004,10,8,7,6,4,0,33] ?_; subst hM; first | exact ⟨.inl rfl, _, rfl, .refl _, rfl, trivial⟩ | exact ⟨.inl rfl, _, rfl, .refl _, rfl, rfl, trivial⟩ | exact ⟨.inl rfl, _, rfl, .tup ⟨.agg ⟨.any _, .any _, .any _, .any _, .any _, .any _, .any _, trivial⟩, .refl _, trivial⟩, rfl, trivial⟩
        try simp only [h7, if_true, if_false, Bool.false_eq_true] at hM
        have := atl h7; refine gc (eSignT ts j6 [41] hm h7) [15,17,0,9,13,3001,3000,2010,2008,2006,2004,68,10,8,7,6,4,0,8,34,5,2] ?_; refine gc (eBehind ts (j6 + 1) hm (by omega) (by omega)) [20,7,20,7] ?_; refine u rfl rfl (r_buildSlice (e := 40) (sz := 7) (zs := zp) (pasD [a3, a6]) rfl rfl (by kernel_rfl) (by kernel_rfl) rfl rfl (by simp only [pasD, paD_eq]; rfl) (by simp only [pasD, paD_eq]; rfl)) ?_; refine gg [6,0,1,11,6,1,2,6,1,1,11,6,6,1,11,4,9,7,3001,3000,2006,2004,7,6,4,5,20,7,10,1,0,9,5,3001,3000,2006,7,6,33] ?_; subst hM; first | exact ⟨.inl rfl, _, rfl, .refl _, rfl, trivial⟩ | exact ⟨.inl rfl, _, rfl, .refl _, rfl, rfl, trivial⟩ | exact ⟨.inl rfl, _, rfl, .tup ⟨.agg ⟨.any _, .any _, .any _, .any _, .any _, .any _, .any _, trivial⟩, .refl _, trivial⟩, rfl, trivial⟩
      try simp only [h4, if_true, if_false, Bool.false_eq_true] at hM
      have := atl h4; refine gc (eSignT ts j3 [41] hm h4) [17,0,9,13,3001,3000,2008,2006,2004,49,9,8,7,6,4,2,0,32,5,20,7,2,10,1,0,9,12,3001,3000,2008,2006,2004,9,8,7,6,4,2,0,33] ?_; subst hM; first | exact ⟨.inl rfl, _, rfl, .refl _, rfl, trivial⟩ | exact ⟨.inl rfl, _, rfl, .refl _, rfl, rfl, trivial⟩ | exact ⟨.inl rfl, _, rfl, .tup ⟨.agg ⟨.any _, .any _, .any _, .any _, .any _, .any _, .any _, trivial⟩, .refl _, trivial⟩, rfl, trivial⟩
    try simp only [h2, if_true, if_false, Bool.false_eq_true] at hM
    have := atl h2; refine gc (eSignT ts (i + 1) [41] hm h2) [0,9,10,3001,3000,2006,2004,31,7,6,4,2,0,32,5,2] ?_; refine gc (eBehind ts ((i + 1) + 1) hm (by omega) (by omega)) [6,0,1,11,6,1,2,6,1,1,11,0,9,9,3001,3000,2006,2004,7,6,4,2,0,5,20,7,10,1,0,9,9,3001,3000,2006,2004,7,6,4,2,0,33] ?_; subst hM; first | exact ⟨.inl rfl, _, rfl, .refl _, rfl, trivial⟩ | exact ⟨.inl rfl, _, rfl, .refl _, rfl, rfl, trivial⟩ | exact ⟨.inl rfl, _, rfl, .tup ⟨.agg ⟨.any _, .any _, .any _, .any _, .any _, .any _, .any _, trivial⟩, .refl _, trivial⟩, rfl, trivial⟩
  try simp only [h1, if_true, if_false, Bool.false_eq_true] at hM
  have := atl h1; refine gc (eSignT ts i [91] hm h1) [0,9,10,3001,3000,2006,2004,12,7,6,4,2,0,32,5,6,0,1,11,0,9,9,3001,3000,2006,2004,7,6,4,2,0,31,5,2] ?_
  rcases h8 : at? ts (i + 1) 5 [93] with _ | _
  · try simp only [h8, if_true, if_false, Bool.false_eq_true] at hM
    refine gc (eSignF ts (i + 1) [93] hm h8) [15,0,9,10,3001,3000,2006,2004,16,7,6,4,2,0,32,5,20,7,10,1,0,9,9,3001,3000,2006,2004,7,6,4,2,0,33] ?_; subst hM; first | exact ⟨.inl rfl, _, rfl, .refl _, rfl, trivial⟩ | exact ⟨.inl rfl, _, rfl, .refl _, rfl, rfl, trivial⟩ | exact ⟨.inl rfl, _, rfl, .tup ⟨.agg ⟨.any _, .any _, .any _, .any _, .any _, .any _, .any _, trivial⟩, .refl _, trivial⟩, rfl, trivial⟩
  try simp only [h8, if_true, if_false, Bool.false_eq_true] at hM
  have := atl h8; refine gc (eSignT ts (i + 1) [93] hm h8) [15,0,9,10,3001,3000,2006,2004,16,7,6,4,2,0,8,34,5,2] ?_; refine gc (eBehind ts ((i + 1) + 1) hm (by omega) (by omega)) [6,1,2,6,1,1,11,0,9,9,3001,3000,2006,2004,7,6,4,2,0,5,20,7,10,1,0,9,9,3001,3000,2006,2004,7,6,4,2,0,33] ?_; subst hM; first | exact ⟨.inl rfl, _, rfl, .refl _, rfl, trivial⟩ | exact ⟨.inl rfl, _, rfl, .refl _, rfl, rfl, trivial⟩ | exact ⟨.inl rfl, _, rfl, .tup ⟨.agg ⟨.any _, .any _, .any _, .any _, .any _, .any _, .any _, trivial⟩, .refl _, trivial⟩, rfl, trivial⟩
theorem ePop (ts : List Tok) (g : Nat) (hm : ts.length ≤ 1000000000) (hP : PatE ts g) (seen : List (List UInt8)) (i : Nat) (hi : i ≤ ts.length) (hf : ts.length - i < g + 1) {M : QR (Pa × List (List UInt8))} (hM : qPop ts (qPatF ts g) seen i = M) : Con Tryz.prog 139 [.ptr 3000 0, .ptr 3001 mapT] [(3000, eRdr ts i), (3001, seenF seen)] (retQ patE [.agg paJ] M) (outP ts M) := by
  have hl := toks_len (ts := ts); unfold qPop at hM; refine con_intro rfl rfl (by kernel_rfl) (by rcases M with _ | ⟨⟨_, _⟩, _⟩ <;> kernel_rfl) ?_; refine gg [5,24,2004,1,0,9,7,3001,3000,2004,5,4,1,0,5,2] ?_; refine uC (eFrom ts i hm) ?_; refine u rfl rfl (r_build (zs := [.int .i64 0, .int .i64 0]) (qs := [(0, 1), (1, 1)]) [.lit (.int .i64 0), .lit (.int .i64 0)] rfl rfl (by kernel_rfl) (by kernel_rfl) ⟨.refl _, .refl _, trivial⟩ rfl rfl) ?_; refine u rfl rfl (r_build (zs := zp) (qs := [(0, 1), (1, 2), (3, 1), (4, 1), (5, 1), (6, 1)]) dp rfl rfl (by kernel_rfl) (by kernel_rfl) kp rfl rfl) ?_; refine gg [24,2006,10,0,9,9,3001,3000,2006,2004,6,5,4,1,0,31,35,5,2] ?_
  rcases h9 : at? ts i 5 [95] with _ | _
  · try simp only [h9, if_true, if_false, Bool.false_eq_true] at hM
    refine gc (eIsB ts i 5 [95] hm h9) [1,0,9,10,3001,3000,2006,2004,12,6,5,4,1,0,8,5,2] ?_
    rcases of_seen ts i seen with h10 | ⟨h10, hc⟩ | ⟨h10, hc⟩
    · simp only [h10, if_true, if_false, Bool.false_eq_true] at hM; refine gc (eOfB ts i 1 hm h10) [1,0,9,10,3001,3000,2006,2004,16,6,5,4,1,0,8,5,2] ?_
      rcases h11 : of? ts i 3 with _ | _
      · try simp only [h11, if_true, if_false, Bool.false_eq_true] at hM
        refine gc (eOfB ts i 3 hm h11) [1,0,9,10,3001,3000,2006,2004,43,6,5,4,1,0,8,5,2] ?_
        rcases h12 : of? ts i 4 with _ | _
        · try simp only [h12, if_true, if_false, Bool.false_eq_true] at hM
          refine gc (eOfB ts i 4 hm h12) [1,0,9,10,3001,3000,2006,2004,59,6,5,4,1,0,8,5,2] ?_
          rcases h13 : at? ts i 2 [116, 114, 117, 101] with _ | _
          · try simp only [h13, if_true, if_false, Bool.false_eq_true] at hM
            refine gc (eIsB ts i 2 [116, 114, 117, 101] hm h13) [1,0,9,10,3001,3000,2006,2004,75,6,5,4,1,0,8,5,2] ?_
            rcases h14 : at? ts i 2 [102, 97, 108, 115, 101] with _ | _
            · try simp only [h14, if_true, if_false, Bool.false_eq_true] at hM
              refine gc (eIsB ts i 2 [102, 97, 108, 115, 101] hm h14) [1,0,9,10,3001,3000,2006,2004,80,6,5,4,1,0,8,31,5,2] ?_
              rcases h15 : at? ts i 5 [91] with _ | _
              · try simp only [h15, if_true, if_false, Bool.false_eq_true] at hM
                refine gc (eIsB ts i 5 [91] hm h15) [1,0,9,10,3001,3000,2006,2004,84,6,5,4,1,0,8,37,2] ?_
                rcases h16 : at? ts i 5 [40] with _ | _
                · try simp only [h16, if_true, if_false, Bool.false_eq_true] at hM
                  refine gc (eIsB ts i 5 [40] hm h16) [1,0,9,10,3001,3000,2006,2004,84,6,5,4,1,0,8,5,20,7,10,1,0,9,8,3001,3000,2006,2004,6,5,4,0,33] ?_; subst hM; first | exact ⟨.inl rfl, _, rfl, .refl _, rfl, trivial⟩ | exact ⟨.inl rfl, _, rfl, .refl _, rfl, rfl, trivial⟩ | exact ⟨.inl rfl, _, rfl, .tup ⟨.agg ⟨.any _, .any _, .any _, .any _, .any _, .any _, .any _, trivial⟩, .refl _, trivial⟩, rfl, trivial⟩
                try simp only [h16, if_true, if_false, Bool.false_eq_true] at hM
                have := atl h16; refine gc (eIsB ts i 5 [40] hm h16) [1,0,9,10,3001,3000,2006,2004,84,6,5,4,1,0,32,5,2,20,7,2] ?_
                rcases h17 : qRound ts (qPatF ts g) seen i with ⟨e17, q17⟩ | ⟨⟨a17, z17⟩, j17⟩
                · simp only [h17, if_true, if_false, Bool.false_eq_true] at hM; obtain ⟨_, _, _⟩ := okE (qRound_ok ts (qPatF_ok ts g) seen i (by omega) (by omega)) h17; refine gc (eRound ts g hm hP seen i (by omega) (by omega) (by omega) (by first | exact .inl ‹_› | exact .inr ‹_›) h17) [14,14,10,1,0,9,7,3000,2006,2004,6,5,4,0,33] ?_; subst hM; first | exact ⟨.inl rfl, _, rfl, .refl _, rfl, trivial⟩ | exact ⟨.inl rfl, _, rfl, .refl _, rfl, rfl, trivial⟩ | exact ⟨.inl rfl, _, rfl, .tup ⟨.agg ⟨.any _, .any _, .any _, .any _, .any _, .any _, .any _, trivial⟩, .refl _, trivial⟩, rfl, trivial⟩
                simp only [h17, if_true, if_false, Bool.false_eq_true] at hM; obtain ⟨_, _⟩ := okO (qRound_ok ts (qPatF_ok ts g) seen i (by omega) (by omega)) h17; refine gc (eRound ts g hm hP seen i (by omega) (by omega) (by omega) (by first | exact .inl ‹_› | exact .inr ‹_›) h17) [14,14,10,1,0,9,8,3001,3000,2006,2004,6,5,4,0,33] ?_; subst hM; first | exact ⟨.inl rfl, _, rfl, .refl _, rfl, trivial⟩ | exact ⟨.inl rfl, _, rfl, .refl _, rfl, rfl, trivial⟩ | exact ⟨.inl rfl, _, rfl, .tup ⟨.agg ⟨.any _, .any _, .any _, .any _, .any _, .any _, .any _, trivial⟩, .refl _, trivial⟩, rfl, trivial⟩
              try simp only [h15, if_true, if_false, Bool.false_eq_true] at hM
              have := atl h15; refine gc (eIsB ts i 5 [91] hm h15) [1,0,9,10,3001,3000,2006,2004,84,6,5,4,1,0,32,34,32,5,2,20,7,2] ?_
              rcases h18 : qRound ts (qPatF ts g) seen i with ⟨e18, q18⟩ | ⟨⟨a18, z18⟩, j18⟩
              · simp only [h18, if_true, if_false, Bool.false_eq_true] at hM; obtain ⟨_, _, _⟩ := okE (qRound_ok ts (qPatF_ok ts g) seen i (by omega) (by omega)) h18; refine gc (eRound ts g hm hP seen i (by omega) (by omega) (by omega) (by first | exact .inl ‹_› | exact .inr ‹_›) h18) [14,14,10,1,0,9,7,3000,2006,2004,6,5,4,0,33] ?_; subst hM; first | exact ⟨.inl rfl, _, rfl, .refl _, rfl, trivial⟩ | exact ⟨.inl rfl, _, rfl, .refl _, rfl, rfl, trivial⟩ | exact ⟨.inl rfl, _, rfl, .tup ⟨.agg ⟨.any _, .any _, .any _, .any _, .any _, .any _, .any _, trivial⟩, .refl _, trivial⟩, rfl, trivial⟩
              simp only [h18, if_true, if_false, Bool.false_eq_true] at hM; obtain ⟨_, _⟩ := okO (qRound_ok ts (qPatF_ok ts g) seen i (by omega) (by omega)) h18; refine gc (eRound ts g hm hP seen i (by omega) (by omega) (by omega) (by first | exact .inl ‹_› | exact .inr ‹_›) h18) [14,14,10,1,0,9,8,3001,3000,2006,2004,6,5,4,0,33] ?_; subst hM; first | exact ⟨.inl rfl, _, rfl, .refl _, rfl, trivial⟩ | exact ⟨.inl rfl, _, rfl, .refl _, rfl, rfl, trivial⟩ | exact ⟨.inl rfl, _, rfl, .tup ⟨.agg ⟨.any _, .any _, .any _, .any _, .any _, .any _, .any _, trivial⟩, .refl _, trivial⟩, rfl, trivial⟩
            try simp only [h14, if_true, if_false, Bool.false_eq_true] at hM
            have := atl h14; refine gc (eIsB ts i 2 [102, 97, 108, 115, 101] hm h14) [1,0,9,10,3001,3000,2006,2004,80,6,5,4,1,0,32,37,6,0,1,11,0,9,8,3001,3000,2006,2004,6,5,4,0,5,2,13,6,1,1,7,27,13,6,1,1,11,0,9,8,3001,3000,2006,2004,6,5,4,0,5,2] ?_; refine gc (eBehind ts (i + 1) hm (by omega) (by omega)) [6,1,2,6,1,1,11,0,9,7,3001,3000,2006,2004,6,5,4,5,20,7,10,1,0,9,5,3001,3000,2004,5,4,33] ?_; subst hM; exact ⟨.inl rfl, _, rfl, .refl _, rfl, rfl, trivial⟩
          try simp only [h13, if_true, if_false, Bool.false_eq_true] at hM
          have := atl h13; refine gc (eIsB ts i 2 [116, 114, 117, 101] hm h13) [1,0,9,10,3001,3000,2006,2004,75,6,5,4,1,0,32,37,6,0,1,11,6,4,1,11,0,9,8,3001,3000,2006,2004,6,5,4,0,5,2,13,6,1,1,7,27,13,6,1,1,11,0,9,8,3001,3000,2006,2004,6,5,4,0,5,2] ?_; refine gc (eBehind ts (i + 1) hm (by omega) (by omega)) [6,1,2,6,1,1,11,0,9,7,3001,3000,2006,2004,6,5,4,5,20,7,10,1,0,9,5,3001,3000,2004,5,4,33] ?_; subst hM; exact ⟨.inl rfl, _, rfl, .refl _, rfl, rfl, trivial⟩
        try simp only [h12, if_true, if_false, Bool.false_eq_true] at hM
        have := ofl h12; refine gc (eOfB ts i 4 hm h12) [1,0,9,10,3001,3000,2006,2004,59,6,5,4,1,0,32] ?_; obtain ⟨x, hx⟩ := tok_at (ts := ts) (i := i) (by omega); refine gg [37,2,13,6,0,1,7,2,13,6,1,1,7] ?_; refine u rfl rfl (r_indexAddr (e := 76) (sz := 5) rfl rfl (by kernel_rfl) rfl rfl (by omega) (toksD_get hx)) ?_; refine gg [19,3,1,12,6,0,1,11,6,5,1,11,4,9,8,3001,3000,2006,2004,6,5,4,0,5,2,13,6,1,1,7,27,13,6,1,1,11,0,9,8,3001,3000,2006,2004,6,5,4,0,5,2] ?_; refine gc (eBehind ts (i + 1) hm (by omega) (by omega)) [6,1,2,6,1,1,11,0,9,7,3001,3000,2006,2004,6,5,4,5,20,7,10,1,0,9,5,3001,3000,2004,5,4,33] ?_; subst hM; exact ⟨.inl rfl, _, rfl, .of (by rw [qLeafP, strE_at hx]; rfl), rfl, rfl, trivial⟩
      try simp only [h11, if_true, if_false, Bool.false_eq_true] at hM
      have := ofl h11; refine gc (eOfB ts i 3 hm h11) [1,0,9,10,3001,3000,2006,2004,43,6,5,4,1,0,32] ?_; obtain ⟨x, hx⟩ := tok_at (ts := ts) (i := i) (by omega); refine gg [37,2,13,6,0,1,7,2,13,6,1,1,7] ?_; refine u rfl rfl (r_indexAddr (e := 76) (sz := 5) rfl rfl (by kernel_rfl) rfl rfl (by omega) (toksD_get hx)) ?_; refine gg [19,4,1,12,6,0,1,11,6,4,1,11,4,9,8,3001,3000,2006,2004,6,5,4,0,5,2,13,6,1,1,7,27,13,6,1,1,11,0,9,8,3001,3000,2006,2004,6,5,4,0,5,2] ?_; refine gc (eBehind ts (i + 1) hm (by omega) (by omega)) [6,1,2,6,1,1,11,0,9,7,3001,3000,2006,2004,6,5,4,5,20,7,10,1,0,9,5,3001,3000,2004,5,4,33] ?_; subst hM; exact ⟨.inl rfl, _, rfl, .of (by rw [qLeafP, nbrE_at hx]; rfl), rfl, rfl, trivial⟩
    · have := ofl h10; simp only [h10, hc, if_true] at hM; refine gc (eOfB ts i 1 hm h10) [1,0,9,10,3001,3000,2006,2004,16,6,5,4,1,0,32,31] ?_; obtain ⟨x, hx⟩ := tok_at (ts := ts) (i := i) (by omega); have hc2 := hc; rw [strE_at hx] at hc2; refine gg [37,2,13,6,0,1,7,2,13,6,1,1,7] ?_; refine u rfl rfl (r_indexAddr (e := 76) (sz := 5) rfl rfl (by kernel_rfl) rfl rfl (by omega) (toksD_get hx)) ?_; refine gg [19,3,1,12,6,0,1,11,6,3,1,11,4,9,9,3001,3000,2006,2004,6,5,4,1,0,31,5,2,6,3,1,7] ?_; refine u rfl rfl (r_lookup (dk := .string) (1) rfl rfl (by kernel_rfl) rfl rfl rfl trivial seenV_key (.inr (seenV_yes hc2))) ?_; refine u rfl rfl (r_gtI rfl rfl rfl rfl) ?_; refine gg [0,9,10,3001,3000,2006,2004,36,6,5,4,1,0,32,5,20,7,10,1,0,9,9,3001,3000,2006,2004,6,5,4,1,0,33] ?_; subst hM; first | exact ⟨.inl rfl, _, rfl, .refl _, rfl, trivial⟩ | exact ⟨.inl rfl, _, rfl, .refl _, rfl, rfl, trivial⟩ | exact ⟨.inl rfl, _, rfl, .tup ⟨.agg ⟨.any _, .any _, .any _, .any _, .any _, .any _, .any _, trivial⟩, .refl _, trivial⟩, rfl, trivial⟩
    have := ofl h10; simp only [h10, hc, if_true, if_false, Bool.false_eq_true] at hM; refine gc (eOfB ts i 1 hm h10) [1,0,9,10,3001,3000,2006,2004,16,6,5,4,1,0,32,31] ?_; obtain ⟨x, hx⟩ := tok_at (ts := ts) (i := i) (by omega); have hc2 := hc; rw [strE_at hx] at hc2; refine gg [37,2,13,6,0,1,7,2,13,6,1,1,7] ?_; refine u rfl rfl (r_indexAddr (e := 76) (sz := 5) rfl rfl (by kernel_rfl) rfl rfl (by omega) (toksD_get hx)) ?_; refine gg [19,3,1,12,6,0,1,11,6,3,1,11,4,9,9,3001,3000,2006,2004,6,5,4,1,0,31,5,2,6,3,1,7] ?_; refine u rfl rfl (r_lookup (dk := .string) (0) rfl rfl (by kernel_rfl) rfl rfl rfl trivial seenV_key (.inl ⟨seenV_no hc2, rfl⟩)) ?_; refine u rfl rfl (r_gtI rfl rfl rfl rfl) ?_; refine gg [0,9,10,3001,3000,2006,2004,36,6,5,4,1,0,8,34,37,2,6,3,1,7] ?_; refine u rfl rfl (r_lookup (dk := .string) (0) rfl rfl (by kernel_rfl) rfl rfl rfl trivial seenV_key (.inl ⟨seenV_no hc2, rfl⟩)) ?_
    refine gg [27] ?_; refine u rfl rfl (r_mapPush (dk := .string) rfl rfl (by kernel_rfl) rfl rfl rfl rfl trivial seenV_key (seenV_no hc2)) ?_; refine gg [0,9,8,3001,3000,2006,2004,6,5,4,0,5,2,13,6,1,1,7,27,13,6,1,1,11,0,9,8,3001,3000,2006,2004,6,5,4,0,5,2] ?_; refine gc (eBehind ts (i + 1) hm (by omega) (by omega)) [6,1,2,6,1,1,11,0,9,7,3001,3000,2006,2004,6,5,4,5,20,7,10,1,0,9,5,3001,3000,2004,5,4,33] ?_; subst hM; refine ⟨.inl rfl, _, rfl, .of ?_, rfl, ?_, trivial⟩
    · rw [strE_at hx]; rfl
    show _ = some (seenF (seen ++ [strE ts i]))
    rw [strE_at hx, seenF, seenV_snoc]; rfl
  try simp only [h9, if_true, if_false, Bool.false_eq_true] at hM
  have := atl h9; refine gc (eIsB ts i 5 [95] hm h9) [1,0,9,10,3001,3000,2006,2004,12,6,5,4,1,0,32,37,6,0,1,11,0,9,8,3001,3000,2006,2004,6,5,4,0,5,2,13,6,1,1,7,27,13,6,1,1,11,0,9,8,3001,3000,2006,2004,6,5,4,0,5,2] ?_; refine gc (eBehind ts (i + 1) hm (by omega) (by omega)) [6,1,2,6,1,1,11,0,9,7,3001,3000,2006,2004,6,5,4,5,20,7,10,1,0,9,5,3001,3000,2004,5,4,33] ?_; subst hM; exact ⟨.inl rfl, _, rfl, .refl _, rfl, rfl, trivial⟩
theorem ePat (ts : List Tok) (hm : ts.length ≤ 1000000000) : ∀ g, PatE ts g
  | 0 => fun _ _ _ h => absurd h (Nat.not_lt_zero _)
  | g + 1 => fun seen i hi hf M hM => by
    have hP := ePat ts hm g; unfold qPatF at hM; refine con_intro rfl rfl (by kernel_rfl) (by rcases M with _ | ⟨⟨_, _⟩, _⟩ <;> kernel_rfl) ?_; refine gg [5,24,2004,1,0,9,7,3001,3000,2004,5,4,1,0,5,2,2] ?_
    rcases h19 : qPop ts (qPatF ts g) seen i with ⟨e19, q19⟩ | ⟨⟨a19, z19⟩, j19⟩
    · simp only [h19, if_true, if_false, Bool.false_eq_true] at hM; obtain ⟨_, _, _⟩ := okE (qPop_ok ts (qPatF_ok ts g) seen i (by omega)) h19; refine gc (ePop ts g hm hP seen i (by omega) (by omega) h19) [2,14,14,24,2006,10,1,0,9,9,3000,2006,2004,7,6,5,4,1,0,31,5,2,15,2,39,3,16,0,9,10,3000,2006,2004,21,7,6,5,4,1,0,32,5,20,7,2,10,1,0,9,9,3000,2006,2004,7,6,5,4,1,0,33] ?_; subst hM; first | exact ⟨.inl rfl, _, rfl, .refl _, rfl, trivial⟩ | exact ⟨.inl rfl, _, rfl, .refl _, rfl, rfl, trivial⟩ | exact ⟨.inl rfl, _, rfl, .tup ⟨.agg ⟨.any _, .any _, .any _, .any _, .any _, .any _, .any _, trivial⟩, .refl _, trivial⟩, rfl, trivial⟩
    simp only [h19, if_true, if_false, Bool.false_eq_true] at hM; obtain ⟨_, _⟩ := okO (qPop_ok ts (qPatF_ok ts g) seen i (by omega)) h19; refine gc (ePop ts g hm hP seen i (by omega) (by omega) h19) [2,14,14,24,2006,10,1,0,9,10,3001,3000,2006,2004,7,6,5,4,1,0,31,5,2,15,2,2] ?_
    rcases h20 : at? ts j19 5 [58, 58] with _ | _
    · try simp only [h20, if_true, if_false, Bool.false_eq_true] at hM
      refine gc (eSignF ts j19 [58, 58] hm h20) [15,17,0,9,11,3001,3000,2006,2004,21,7,6,5,4,1,0,32,5,20,7,2,10,1,0,9,10,3001,3000,2006,2004,7,6,5,4,1,0,33] ?_; subst hM; first | exact ⟨.inl rfl, _, rfl, .refl _, rfl, trivial⟩ | exact ⟨.inl rfl, _, rfl, .refl _, rfl, rfl, trivial⟩ | exact ⟨.inl rfl, _, rfl, .tup ⟨.agg ⟨.any _, .any _, .any _, .any _, .any _, .any _, .any _, trivial⟩, .refl _, trivial⟩, rfl, trivial⟩
    try simp only [h20, if_true, if_false, Bool.false_eq_true] at hM
    have := atl h20; refine gc (eSignT ts j19 [58, 58] hm h20) [15,17,0,9,11,3001,3000,2006,2004,21,7,6,5,4,1,0,8,34,5,2,2] ?_
    rcases h21 : qPatF ts g z19 (j19 + 1) with ⟨e21, q21⟩ | ⟨⟨a21, z21⟩, j21⟩
    · simp only [h21, if_true, if_false, Bool.false_eq_true] at hM; obtain ⟨_, _, _⟩ := okE (qPatF_ok ts g z19 (j19 + 1) (by omega)) h21; refine gc (hP z19 (j19 + 1) (by omega) (by omega) _ h21) [2,14,14,24,2008,10,1,0,9,9,3000,2008,2006,2004,8,7,6,5,4,5,6,1,2,6,0,1,7,6,1,2,6,1,1,7] ?_; refine u rfl rfl (r_build (zs := [.int .i64 0, .int .i64 0]) (qs := [(0, 1), (1, 1)]) [.lit (.int .i64 0), .lit (.int .i64 0)] rfl rfl (by kernel_rfl) (by kernel_rfl) ⟨.refl _, .refl _, trivial⟩ rfl rfl) ?_; refine gg [20,7,20,7] ?_; refine u rfl rfl (r_buildSlice (e := 40) (sz := 7) (zs := zp) ([paX a19, paJ]) rfl rfl (by kernel_rfl) (by kernel_rfl) rfl rfl rfl rfl) ?_; refine u rfl rfl (r_build (zs := zp) (qs := [(0, 1), (1, 2), (3, 1), (4, 1), (5, 1), (6, 1)]) dp rfl rfl (by kernel_rfl) (by kernel_rfl) kp rfl rfl) ?_; refine gg [2,10,1,0,9,4,3000,2004,5,4,33] ?_; subst hM; first | exact ⟨.inl rfl, _, rfl, .refl _, rfl, trivial⟩ | exact ⟨.inl rfl, _, rfl, .refl _, rfl, rfl, trivial⟩ | exact ⟨.inl rfl, _, rfl, .tup ⟨.agg ⟨.any _, .any _, .any _, .any _, .any _, .any _, .any _, trivial⟩, .refl _, trivial⟩, rfl, trivial⟩
    simp only [h21, if_true, if_false, Bool.false_eq_true] at hM; obtain ⟨_, _⟩ := okO (qPatF_ok ts g z19 (j19 + 1) (by omega)) h21; refine gc (hP z19 (j19 + 1) (by omega) (by omega) _ h21) [2,14,14,24,2008,10,1,0,9,10,3001,3000,2008,2006,2004,8,7,6,5,4,5,6,1,2,6,0,1,7,6,1,2,6,1,1,7] ?_; refine u rfl rfl (r_build (zs := [.int .i64 0, .int .i64 0]) (qs := [(0, 1), (1, 1)]) [.lit (.int .i64 0), .lit (.int .i64 0)] rfl rfl (by kernel_rfl) (by kernel_rfl) ⟨.refl _, .refl _, trivial⟩ rfl rfl) ?_; refine gg [20,7,20,7] ?_; refine u rfl rfl (r_buildSlice (e := 40) (sz := 7) (zs := zp) (pasD [a19, a21]) rfl rfl (by kernel_rfl) (by kernel_rfl) rfl rfl (by simp only [pasD, paD_eq]; rfl) (by simp only [pasD, paD_eq]; rfl)) ?_; refine u rfl rfl (r_build (zs := zp) (qs := [(0, 1), (1, 2), (3, 1), (4, 1), (5, 1), (6, 1)]) dp rfl rfl (by kernel_rfl) (by kernel_rfl) kp rfl rfl) ?_; refine gg [2,10,1,0,9,5,3001,3000,2004,5,4,33] ?_
    subst hM; first | exact ⟨.inl rfl, _, rfl, .refl _, rfl, trivial⟩ | exact ⟨.inl rfl, _, rfl, .refl _, rfl, rfl, trivial⟩ | exact ⟨.inl rfl, _, rfl, .tup ⟨.agg ⟨.any _, .any _, .any _, .any _, .any _, .any _, .any _, trivial⟩, .refl _, trivial⟩, rfl, trivial⟩

end Go.Proofs.YtlagglkpbnbmeaaGreatDoor
