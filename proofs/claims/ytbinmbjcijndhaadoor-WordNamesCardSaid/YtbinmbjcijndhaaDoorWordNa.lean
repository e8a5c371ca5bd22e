/- The law WordNames: a right name with one byte more; no key word is a name; how names begin. -/
import Derived.Test.YtbinmbjcijndhaaDoorWordE
namespace Go.Proofs.YtbinmbjcijndhaaDoor
open Go Go.RowKit

set_option maxHeartbeats 2000000
set_option maxRecDepth 100000

theorem mName_key {s : List UInt8} (h : mName s = true) : mKey s = false := by
  cases s with
  | nil => cases h
  | cons c r =>
    simp only [mName, Bool.and_eq_true, Bool.not_eq_true'] at h
    exact h.2
theorem mName_more {s : List UInt8} (h : mName s = true) (c : UInt8) : mName (s ++ [c]) = (isPart c && decide ((s ++ [c]).length ≤ 32) && !mKey (s ++ [c])) := by
  cases s with
  | nil => cases h
  | cons d r =>
    simp only [mName, Bool.and_eq_true] at h
    obtain ⟨⟨⟨_, h2⟩, h3⟩, _⟩ := h
    rw [List.cons_append, mName, h2, List.all_append, h3]
    simp only [List.all_cons, List.all_nil, Bool.and_true, Bool.true_and]
    rw [Bool.and_comm (isPart c)]
theorem mName_first {c : UInt8} {r : List UInt8} (h : isSmall c = false) : mName (c :: r) = false := by simp [mName, h]

theorem wordNames_any (a0 : ByteArray) (a1 : Int) (w : World) (w0 : a0.size ≤ maxLen) (w1 : (Lit.int .u8 a1).wf = true) (htab : tab10 w w.heap.size) :
    Calls Tryd.prog 4 #[.string a0, .int .u8 a1] w fun e w' => e = .returned (.bool true) ∧ Below w.heap.size w w' := by
  obtain ⟨s, rfl⟩ := str_bytes a0
  have hsl : s.length ≤ 9223372036854775807 := by simpa [ByteArray.size, maxLen] using w0
  obtain ⟨c, rfl⟩ : ∃ c : UInt8, a1 = (c.toNat : Int) := by
    simp only [Lit.wf, Bool.and_eq_true, decide_eq_true_eq] at w1
    have h1 : 0 ≤ a1 := w1.1
    have h2 : a1 ≤ 255 := w1.2
    exact ⟨UInt8.ofNat a1.toNat, by simp; omega⟩
  clear w0 w1
  by_cases hbig : 100 < s.length
  · have hbig' : (100 : Int) < s.length := by omega
    clear htab
    go_enter Tryd.func4, Tryd.ntmps4
    go_wp2_with fail
    go_ret
    exact ⟨rfl, Below.refl _ _⟩
  have hbig' : (s.length : Int) ≤ 100 := by omega
  have ht := hide htab; clear htab
  have hcl := c.toNat_lt
  have hcv : (convert 28 9 (.slice (some ⟨w.heap.size, 0, none⟩) 1 1)).run Tryd.prog (w.alloc (.cells #[.int .u8 (c.toNat : Int)] 5)) = .ok (.string ⟨#[c]⟩) (w.alloc (.cells #[.int .u8 (c.toNat : Int)] 5)) :=
    run_conv (bs := [c]) (rdB_mark0 w [c] _ _ rfl) rfl Tryd.underlying28 Tryd.underlying5 Tryd.underlying9
  have hb1 : Below w.heap.size w (w.alloc (.cells #[.int .u8 c.toNat] 5)) := (Below.refl _ _).alloc (Nat.le_refl _) _
  go_enter Tryd.func4, Tryd.ntmps4
  go_upto_region 4 with fail
  obtain ⟨t, hts⟩ : ∃ t, t = s ++ [c] := ⟨_, rfl⟩
  have htl : t.length ≤ 101 := by rw [hts]; simp; omega
  have htl2 : t.length = s.length + 1 := by rw [hts]; simp
  have htl' := hide htl2; clear htl2
  have hts' := hide hts; clear hts
  obtain ⟨W, hW⟩ : ∃ W, W = w.alloc (.cells #[.int .u8 (c.toNat : Int)] 5) := ⟨_, rfl⟩
  have hW' := hide hW; clear hW
  go_cut [5, 6] (fun v5 v6 wc => v5 = str t ∧ v6 = .bool (isPart c) ∧ wc = W)
  case first =>
    clear hcv
    cases h95 : ((c.toNat : Int) == 95) <;> cases h39 : ((c.toNat : Int) == 39)
    all_goals
      go_wp2_with fail
      all_goals
        go_meet
        simp only [beq_iff_eq, beq_eq_false_iff_ne, ne_eq] at h95 h39
        refine ⟨by rw [hts'.out], congrArg Value.bool (bool_ext ?_), hW'.out.symm⟩
        simp [isSmall, isDig, isBig, isPart] <;> omega
  case rest =>
    obtain ⟨rfl, rfl, hwc⟩ := hcut
    have hbW : Below w.heap.size w wc := by rw [hwc, hW'.out]; exact hb1
    have htW' := hide (tabNow (ht.out.on hbW) hbW.size)
    clear hwc hW' hcv hb1
    have ks := fun W => wordKey_any s W
    have kt := fun W => wordKey_any t W
    have ns := fun W => wordName_any s W (by omega)
    have nt := fun W => wordName_any t W (by omega)
    cases hN : mName s
    · rw [hN] at ns
      have hN' := hide hN; clear hN
      cases hK : mKey s
      all_goals
        rw [hK] at ks
        have hK' := hide hK; clear hK
        cases s with
        | nil =>
          go_wp2_with (first | (go_at_call 12; with_reducible refine (ks _).mono ?_; rintro e w' ⟨rfl, rfl⟩) | (go_at_call 13; with_reducible refine (ns _).mono ?_; rintro e w' ⟨rfl, rfl⟩))
          all_goals
            refine (wakesW_any _ htW'.out).mono ?_
            rintro e w3 ⟨rfl, hb3⟩
            go_wp2_with fail
            go_ret
            exact ⟨rfl, hbW.trans (hb3.mono hbW.size)⟩
        | cons d r =>
          go_wp2_with (first | (go_at_call 12; with_reducible refine (ks _).mono ?_; rintro e w' ⟨rfl, rfl⟩) | (go_at_call 13; with_reducible refine (ns _).mono ?_; rintro e w' ⟨rfl, rfl⟩))
          all_goals
            refine (wakesW_any _ htW'.out).mono ?_
            rintro e w3 ⟨rfl, hb3⟩
            go_wp2_with fail
            go_ret
            exact ⟨rfl, hbW.trans (hb3.mono hbW.size)⟩
    · have hK := mName_key hN
      have hm := mName_more hN c
      rw [← hts'.out] at hm
      rw [hN] at ns
      rw [hK] at ks
      cases s with
      | nil => cases hN
      | cons d r =>
        have hsm : isSmall d = true := by
          simp only [mName, Bool.and_eq_true] at hN
          exact hN.1.1.2
        simp only [isSmall, Bool.and_eq_true, decide_eq_true_eq] at hsm
        obtain ⟨s1, s2⟩ := hsm
        have s1' : (97 : Int) ≤ d.toNat := by omega
        have s2' : (d.toNat : Int) ≤ 122 := by omega
        clear hN hK
        cases hmb : isPart c <;> by_cases hle : t.length ≤ 32 <;> cases hkt : mKey t
        all_goals
          rw [hmb, hkt] at hm
          simp only [hle, decide_true, decide_false, Bool.and_true, Bool.and_false, Bool.not_true, Bool.not_false] at hm
          rw [hm] at nt
          rw [hkt] at kt
          have hle2 : decide ((t.length : Int) ≤ 32) = decide (t.length ≤ 32) := by rw [decide_eq_decide]; omega
          simp only [hle, decide_true, decide_false] at hle2
          have hm' := hide hm; have hmb' := hide hmb; have hkt' := hide hkt
          clear hm hmb hkt
          first
            | (have hle3 : (t.length : Int) ≤ 32 := by omega
               clear hle2
               go_wp2_with (first | (go_at_call 12; with_reducible refine (ks _).mono ?_; rintro e w' ⟨rfl, rfl⟩) | (go_at_call 12; with_reducible refine (kt _).mono ?_; rintro e w' ⟨rfl, rfl⟩) | (go_at_call 13; with_reducible refine (ns _).mono ?_; rintro e w' ⟨rfl, rfl⟩) | (go_at_call 13; with_reducible refine (nt _).mono ?_; rintro e w' ⟨rfl, rfl⟩))
               refine (wakesW_any _ htW'.out).mono ?_
               rintro e w3 ⟨rfl, hb3⟩
               go_wp2_with fail
               go_ret
               exact ⟨rfl, hbW.trans (hb3.mono hbW.size)⟩)
            | (have hle3 : ¬ (t.length : Int) ≤ 32 := by omega
               go_wp2_with (first | (go_at_call 12; with_reducible refine (ks _).mono ?_; rintro e w' ⟨rfl, rfl⟩) | (go_at_call 12; with_reducible refine (kt _).mono ?_; rintro e w' ⟨rfl, rfl⟩) | (go_at_call 13; with_reducible refine (ns _).mono ?_; rintro e w' ⟨rfl, rfl⟩) | (go_at_call 13; with_reducible refine (nt _).mono ?_; rintro e w' ⟨rfl, rfl⟩))
               refine (wakesW_any _ htW'.out).mono ?_
               rintro e w3 ⟨rfl, hb3⟩
               go_wp2_with fail
               go_ret
               exact ⟨rfl, hbW.trans (hb3.mono hbW.size)⟩)

end Go.Proofs.YtbinmbjcijndhaaDoor
