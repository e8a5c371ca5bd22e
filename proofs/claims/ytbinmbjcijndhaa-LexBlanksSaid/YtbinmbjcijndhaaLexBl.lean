/- The law LexBlanks: with any blanks and remarks around its tokens a source has the same tokens, but for their places. -/
import Derived.Test.YtbinmbjcijndhaaLexS
import Derived.Test.YtbinmbjcijndhaaBytes3
namespace Go.Proofs.Ytbinmbjcijndhaa
open Go Go.RowKit

set_option maxHeartbeats 2000000
set_option maxRecDepth 100000

/-- which blank stands ahead of token i -/
def kAt (hs : List UInt8) (i : Nat) : Nat := if hs.length = 0 then 0 else (hs.getD (i % hs.length) 0).toNat % 7
theorem kAt_lt (hs : List UInt8) (i : Nat) : kAt hs i < 7 := by unfold kAt; split <;> omega
def wAt (hs : List UInt8) (i : Nat) : List UInt8 := blanks[kAt hs i]'(kAt_lt hs i)
theorem wAt_blank (hs : List UInt8) (i : Nat) : Blank (wAt hs i) := blanks_ok _ (kAt_lt hs i)
theorem wAt_len (hs : List UInt8) (i : Nat) : (wAt hs i).length ≤ 8 := by
  have h : ∀ k (h : k < 7), (blanks[k]'h).length ≤ 8 := by decide
  exact h _ (kAt_lt hs i)
def strsB : Array Value := #[str [32], str [10], str [9, 13], str [32, 32], str [35, 32, 120, 32, 36, 32, 34, 10], str [10, 35, 10], str [32, 35, 126, 10, 10]]
theorem strsB_at (hs : List UInt8) (i : Nat) : strsB[kAt hs i]? = some (str (wAt hs i)) := by
  have h : ∀ k (h : k < 7), strsB[k]? = some (str (blanks[k]'h)) := by
    intro k h
    have hk : k = 0 ∨ k = 1 ∨ k = 2 ∨ k = 3 ∨ k = 4 ∨ k = 5 ∨ k = 6 := by omega
    rcases hk with rfl | rfl | rfl | rfl | rfl | rfl | rfl <;> rfl
  exact h _ (kAt_lt hs i)

theorem lexBlanks_any (A : Option Addr) (c : Nat) (bs : List UInt8) (A2 : Option Addr) (c2 : Nat) (hs : List UInt8) (w : World) (hb : RdB w A bs) (hcap : bs.length ≤ c) (hb2 : RdB w A2 hs) (_hcap2 : hs.length ≤ c2) :
    Calls Try.prog 4 #[.slice A bs.length c, .slice A2 hs.length c2] w fun e w' => e = .returned (.bool true) ∧ Below w.heap.size w w' := by
  by_cases hbig : 3000 < bs.length
  · have hbig' : (3000 : Int) < bs.length := by omega
    go_enter Try.func4, Try.ntmps4
    go_wp2_with fail
    go_ret
    exact ⟨rfl, Below.refl _ _⟩
  have hbig' : (bs.length : Int) ≤ 3000 := by omega
  by_cases hbig2 : 40 < hs.length
  · have hbig2' : (40 : Int) < hs.length := by omega
    go_enter Try.func4, Try.ntmps4
    go_wp2_with fail
    go_ret
    exact ⟨rfl, Below.refl _ _⟩
  have hbig2' : (hs.length : Int) ≤ 40 := by omega
  have hs1 := hide (mScan_small (l := bs) (by omega))
  go_enter Try.func4, Try.ntmps4
  go_wp2_with fail
  refine (lexScan_any A c bs _ hb hcap (by omega)).mono ?_
  rintro e w1 ⟨hres1, hb1⟩
  have hsz1 := hb1.size
  cases hm : mScan bs with
  | error p =>
    rw [hm] at hres1
    obtain rfl : e = _ := hres1
    clear hm
    go_wp2_with fail
    refine (wakes_any _).mono ?_
    rintro e w4 ⟨rfl, hb4⟩
    go_wp2_with fail
    go_ret
    exact ⟨rfl, hb1.trans (hb4.mono (by omega))⟩
  | ok ts =>
    rw [hm] at hres1
    obtain ⟨A1, c1, rfl, hown1⟩ := hres1
    rw [hs1.out] at hm
    have hlt := scans_len (scans_of_ok hm)
    have hati := (scans_at (scans_of_ok hm)).1
    have hati' := hide hati; clear hati
    have hm' := hide hm; clear hm
    have hlt' : (ts.length : Int) ≤ 3000 := by omega
    obtain ⟨tot, htot⟩ : ∃ tot, tot = woven (wAt hs) bs 0 ts := ⟨_, rfl⟩
    have htot' := hide htot
    go_wp2_with fail
    go_loopw [8, 9] (fun l i wr => ∃ (k : Nat) (A' : Option Addr) (c' : Nat) (ds : List UInt8), k ≤ ts.length + 1 ∧ i = .int .i64 k ∧ l = .slice A' ds.length c' ∧ ds.length ≤ 16384 ∧ OwnB wr w1.heap.size A' c' ds ∧ (k ≤ ts.length → ds ++ woven (wAt hs) bs k (ts.drop k) = tot) ∧ (k = ts.length + 1 → ds = tot) ∧ Below w1.heap.size w1 wr) (fun _ i _ => ts.length + 1 - (intOf i).toNat)
    case atStart => exact ⟨0, none, 0, [], by omega, rfl, rfl, by simp, OwnB.nil _ _, fun _ => by rw [htot'.out]; rfl, fun h => by omega, Below.refl _ _⟩
    case round =>
      obtain ⟨k, A', c', ds, hk, rfl, rfl, hdl, hown, hpre, hend, hbl⟩ := hrel
      have hpre' := hide hpre; have hend' := hide hend; clear hpre hend htot
      have hszr := hbl.size
      by_cases hkl : k ≤ ts.length
      · obtain ⟨q, hq⟩ : ∃ q, q = kAt hs k := ⟨_, rfl⟩
        have hq7 : q < 7 := by rw [hq]; exact kAt_lt _ _
        obtain ⟨s, hs'⟩ : ∃ s, s = wAt hs k := ⟨_, rfl⟩
        have hsl : s.length ≤ 8 := by rw [hs']; exact wAt_len _ _
        have hstr : strsB[q]? = some (str s) := by rw [hq, hs']; exact strsB_at _ _
        have hq' := hide hq; have hs2 := hide hs'; have hstr' := hide hstr
        clear hq hs' hstr
        have hk1 : (k : Int) ≤ ts.length := by omega
        have hk0 : (0 : Int) ≤ k := by omega
        go_upto_if 44 with fail
        go_cut [10] (fun v wc => v = .int .i64 q ∧ wc = wr)
        case first =>
          by_cases h0 : hs.length = 0
          · have h0' : ¬ (0 : Int) < hs.length := by omega
            have hq0 : (q : Int) = 0 := by rw [hq'.out]; simp [kAt, h0]
            have hq0' := hide hq0; clear hq0 h0
            go_wp2_with fail
            go_meet
            exact ⟨by rw [hq0'.out], rfl⟩
          · obtain ⟨r, hr⟩ : ∃ r, r = k % hs.length := ⟨_, rfl⟩
            have hrl : r < hs.length := by rw [hr]; exact Nat.mod_lt _ (by omega)
            obtain ⟨ad, x, rfl, hcx, hdx⟩ := ((hb2.below hb1).below hbl).at hrl
            have hq1 : (x.toNat : Int) % 7 = q := by
              have hx : hs.getD (k % hs.length) 0 = x := by
                rw [List.getD_eq_getElem?_getD, ← hr, ← List.head?_drop, hdx]
                rfl
              rw [hq'.out, kAt, if_neg h0, hx]
              omega
            have hr1 : (k : Int) % (hs.length : Int) = r := by rw [hr]; omega
            have hr2 : (r : Int) < hs.length := by omega
            have hx0 : (0 : Int) ≤ (x.toNat : Int) := by omega
            have hx1 : (x.toNat : Int) ≤ 255 := by have := x.toNat_lt; omega
            have h0' : (0 : Int) < hs.length := by omega
            clear hr hdx
            go_wp2_with fail
            go_meet
            exact ⟨congrArg _ hq1, rfl⟩
        case rest =>
          obtain ⟨rfl, rfl⟩ := hcut
          have hst := hstr'.out
          unfold strsB at hst
          rw [List.getElem?_toArray] at hst
          have hst2 := fun h => (List.getElem_eq_iff (h := h)).2 hst
          clear hst
          by_cases hkt : k < ts.length
          · have hkt' : (k : Int) < ts.length := by omega
            obtain ⟨t, ht⟩ : ∃ t, t = ts[k] := ⟨_, rfl⟩
            obtain ⟨b1, b2, b3⟩ := hati'.out t (by rw [ht]; exact List.getElem_mem _)
            have ht' := hide ht; clear ht
            have q1 : (0 : Int) ≤ t.a := by omega
            have q2 : (t.b : Int) ≤ bs.length := by omega
            have q3 : (t.a : Int) < t.b := by omega
            obtain ⟨s2, A4, c4, hs4, hl4, hle4, hsl4, hrds2⟩ := slice_sub (A := A) hcap t.a t.b (by omega) (by omega)
            have hs4' := hide hs4; have hsl2 : s2.length ≤ 3000 := (by omega); clear hs4 hl4
            go_wp2_with (at_builtin; refine wpList_appBS rfl (.tmp 54) (.tmp 58) rfl w1.heap.size A' c' ds rfl (hown.alloc _) s rfl (by omega) (by simp; omega) ?_; intro A3 c3 w3 ds1 hd1 hown3 hB3; have hd1' := hide hd1; have hdl1 : ds1.length ≤ 16392 := (by rw [hd1]; simp; omega); clear hd1)
            have hbl3 : Below w1.heap.size w1 w3 := (hbl.alloc (by omega) _).trans hB3
            have hsz3 := hbl3.size
            have hownl : OwnT w3 w.heap.size A1 c1 ts := hown1.keep hbl3
            obtain ⟨g, rfl, hg3, x0, x1, x2, x3, x4⟩ := own_cells hownl hkt
            rw [← ht'.out] at x0 x1 x2 x3 x4
            have hrd3 : RdB w3 A bs := (hb.below hb1).below hbl3
            have hg1 : g < w1.heap.size := by
              obtain ⟨g', e, hlt', _⟩ := own_cells hown1 hkt
              cases e
              exact hlt'
            have hne : some g ≠ (Value.slice A3 ds1.length c3).ownBlock := fun e => by
              have := hown3.at g e.symm
              omega
            have d1 : decide ((t.a : Int) < 0) = false := by rw [decide_eq_false_iff_not]; omega
            have d2 : decide (bs.length < t.b) = false := by rw [decide_eq_false_iff_not]; omega
            have d3 : decide (t.b ≤ t.a) = false := by rw [decide_eq_false_iff_not]; omega
            refine drawn_start (by kernel_rfl) ?_
            refine take_at (v := ?_) 0 rfl (by kernel_rfl) (by kernel_rfl) (by kernel_rfl) rfl (fun w' hw' => ?_) ?_; rotate_left; · (go_simp <;> with_reducible rfl)
            simp only [Act.put, List.setIfInBounds_toArray, List.set_cons_zero, List.set_cons_succ]
            refine take_at (v := ?_) 1 rfl (by kernel_rfl) (by kernel_rfl) (by kernel_rfl) rfl (fun w' hw' => ?_) ?_; rotate_left; · (go_simp <;> with_reducible rfl)
            simp only [Act.put, List.setIfInBounds_toArray, List.set_cons_zero, List.set_cons_succ]
            refine take_at (v := ?_) 2 rfl (by kernel_rfl) (by kernel_rfl) (by kernel_rfl) rfl (fun w' hw' => ?_) ?_; rotate_left; · (go_simp <;> with_reducible rfl)
            simp only [Act.put, List.setIfInBounds_toArray, List.set_cons_zero, List.set_cons_succ]
            refine take_at (v := ?_) 3 rfl (by kernel_rfl) (by kernel_rfl) (by kernel_rfl) rfl (fun w' hw' => ?_) ?_; rotate_left; · (go_simp <;> with_reducible rfl)
            simp only [Act.put, List.setIfInBounds_toArray, List.set_cons_zero, List.set_cons_succ]
            refine take_at (v := ?_) 4 rfl (by kernel_rfl) (by kernel_rfl) (by kernel_rfl) rfl (fun w' hw' => ?_) ?_; rotate_left; · (have hl := (hw'.2 ⟨g, k * 5 + 1, none⟩ hg3).trans x1; go_simp <;> with_reducible rfl)
            simp only [Act.put, List.setIfInBounds_toArray, List.set_cons_zero, List.set_cons_succ]
            refine take_at (v := ?_) 5 rfl (by kernel_rfl) (by kernel_rfl) (by kernel_rfl) rfl (fun w' hw' => ?_) ?_; rotate_left; · (go_simp <;> with_reducible rfl)
            simp only [Act.put, List.setIfInBounds_toArray, List.set_cons_zero, List.set_cons_succ]
            refine take_at (v := ?_) 6 rfl (by kernel_rfl) (by kernel_rfl) (by kernel_rfl) rfl (fun w' hw' => ?_) ?_; rotate_left; · (go_simp <;> with_reducible rfl)
            simp only [Act.put, List.setIfInBounds_toArray, List.set_cons_zero, List.set_cons_succ]
            refine take_at (v := ?_) 7 rfl (by kernel_rfl) (by kernel_rfl) (by kernel_rfl) rfl (fun w' hw' => ?_) ?_; rotate_left; · (go_simp <;> with_reducible rfl)
            simp only [Act.put, List.setIfInBounds_toArray, List.set_cons_zero, List.set_cons_succ]
            refine take_at (v := ?_) 8 rfl (by kernel_rfl) (by kernel_rfl) (by kernel_rfl) rfl (fun w' hw' => ?_) ?_; rotate_left; · (go_simp <;> with_reducible rfl)
            simp only [Act.put, List.setIfInBounds_toArray, List.set_cons_zero, List.set_cons_succ]
            refine take_at (v := ?_) 9 rfl (by kernel_rfl) (by kernel_rfl) (by kernel_rfl) rfl (fun w' hw' => ?_) ?_; rotate_left; · (go_simp <;> with_reducible rfl)
            simp only [Act.put, List.setIfInBounds_toArray, List.set_cons_zero, List.set_cons_succ]
            refine take_at (v := ?_) 10 rfl (by kernel_rfl) (by kernel_rfl) (by kernel_rfl) rfl (fun w' hw' => ?_) ?_; rotate_left; · (go_simp <;> with_reducible rfl)
            simp only [Act.put, List.setIfInBounds_toArray, List.set_cons_zero, List.set_cons_succ]
            refine take_at (v := ?_) 11 rfl (by kernel_rfl) (by kernel_rfl) (by kernel_rfl) rfl (fun w' hw' => ?_) ?_; rotate_left; · (have hl := (hw'.2 ⟨g, k * 5 + 2, none⟩ hg3).trans x2; go_simp <;> with_reducible rfl)
            simp only [Act.put, List.setIfInBounds_toArray, List.set_cons_zero, List.set_cons_succ]
            refine take_at (v := ?_) 12 rfl (by kernel_rfl) (by kernel_rfl) (by kernel_rfl) rfl (fun w' hw' => ?_) ?_; rotate_left; · (go_simp <;> with_reducible rfl)
            simp only [Act.put, List.setIfInBounds_toArray, List.set_cons_zero, List.set_cons_succ]
            refine take_at (v := ?_) 13 rfl (by kernel_rfl) (by kernel_rfl) (by kernel_rfl) rfl (fun w' hw' => ?_) ?_; rotate_left; · (go_simp <;> with_reducible rfl)
            simp only [Act.put, List.setIfInBounds_toArray, List.set_cons_zero, List.set_cons_succ]
            refine take_at (v := ?_) 14 rfl (by kernel_rfl) (by kernel_rfl) (by kernel_rfl) rfl (fun w' hw' => ?_) ?_; rotate_left; · (go_simp <;> with_reducible rfl)
            simp only [Act.put, List.setIfInBounds_toArray, List.set_cons_zero, List.set_cons_succ]
            refine take_at (v := ?_) 15 rfl (by kernel_rfl) (by kernel_rfl) (by kernel_rfl) rfl (fun w' hw' => ?_) ?_; rotate_left; · (go_simp <;> with_reducible rfl)
            simp only [Act.put, List.setIfInBounds_toArray, List.set_cons_zero, List.set_cons_succ]
            refine take_at (v := ?_) 16 rfl (by kernel_rfl) (by kernel_rfl) (by kernel_rfl) rfl (fun w' hw' => ?_) ?_; rotate_left; · (go_simp <;> with_reducible rfl)
            simp only [Act.put, List.setIfInBounds_toArray, List.set_cons_zero, List.set_cons_succ]
            refine take_at (v := ?_) 17 rfl (by kernel_rfl) (by kernel_rfl) (by kernel_rfl) rfl (fun w' hw' => ?_) ?_; rotate_left; · (go_simp <;> with_reducible rfl)
            simp only [Act.put, List.setIfInBounds_toArray, List.set_cons_zero, List.set_cons_succ]
            refine take_at (v := ?_) 18 rfl (by kernel_rfl) (by kernel_rfl) (by kernel_rfl) rfl (fun w' hw' => ?_) ?_; rotate_left; · (go_simp <;> with_reducible rfl)
            simp only [Act.put, List.setIfInBounds_toArray, List.set_cons_zero, List.set_cons_succ]
            refine take_at (v := ?_) 19 rfl (by kernel_rfl) (by kernel_rfl) (by kernel_rfl) rfl (fun w' hw' => ?_) ?_; rotate_left; · (go_simp <;> with_reducible rfl)
            simp only [Act.put, List.setIfInBounds_toArray, List.set_cons_zero, List.set_cons_succ]
            refine take_at (v := ?_) 20 rfl (by kernel_rfl) (by kernel_rfl) (by kernel_rfl) rfl (fun w' hw' => ?_) ?_; rotate_left; · (go_simp <;> with_reducible rfl)
            simp only [Act.put, List.setIfInBounds_toArray, List.set_cons_zero, List.set_cons_succ]
            refine take_at (v := ?_) 21 rfl (by kernel_rfl) (by kernel_rfl) (by kernel_rfl) rfl (fun w' hw' => ?_) ?_; rotate_left; · (have hl := (hw'.2 ⟨g, k * 5 + 1, none⟩ hg3).trans x1; go_simp <;> with_reducible rfl)
            simp only [Act.put, List.setIfInBounds_toArray, List.set_cons_zero, List.set_cons_succ]
            refine take_at (v := ?_) 22 rfl (by kernel_rfl) (by kernel_rfl) (by kernel_rfl) rfl (fun w' hw' => ?_) ?_; rotate_left; · (go_simp <;> with_reducible rfl)
            simp only [Act.put, List.setIfInBounds_toArray, List.set_cons_zero, List.set_cons_succ]
            refine take_at (v := ?_) 23 rfl (by kernel_rfl) (by kernel_rfl) (by kernel_rfl) rfl (fun w' hw' => ?_) ?_; rotate_left; · (go_simp <;> with_reducible rfl)
            simp only [Act.put, List.setIfInBounds_toArray, List.set_cons_zero, List.set_cons_succ]
            refine take_at (v := ?_) 24 rfl (by kernel_rfl) (by kernel_rfl) (by kernel_rfl) rfl (fun w' hw' => ?_) ?_; rotate_left; · (go_simp <;> with_reducible rfl)
            simp only [Act.put, List.setIfInBounds_toArray, List.set_cons_zero, List.set_cons_succ]
            refine take_at (v := ?_) 25 rfl (by kernel_rfl) (by kernel_rfl) (by kernel_rfl) rfl (fun w' hw' => ?_) ?_; rotate_left; · (go_simp <;> with_reducible rfl)
            simp only [Act.put, List.setIfInBounds_toArray, List.set_cons_zero, List.set_cons_succ]
            refine take_at (v := ?_) 26 rfl (by kernel_rfl) (by kernel_rfl) (by kernel_rfl) rfl (fun w' hw' => ?_) ?_; rotate_left; · (have hl := (hw'.2 ⟨g, k * 5 + 2, none⟩ hg3).trans x2; go_simp <;> with_reducible rfl)
            simp only [Act.put, List.setIfInBounds_toArray, List.set_cons_zero, List.set_cons_succ]
            refine take_at (v := ?_) 27 rfl (by kernel_rfl) (by kernel_rfl) (by kernel_rfl) rfl (fun w' hw' => ?_) ?_; rotate_left; · (go_simp <;> with_reducible rfl)
            simp only [Act.put, List.setIfInBounds_toArray, List.set_cons_zero, List.set_cons_succ]
            refine take_at (v := ?_) 28 rfl (by kernel_rfl) (by kernel_rfl) (by kernel_rfl) rfl (fun w' hw' => ?_) ?_; rotate_left; · (go_simp <;> with_reducible rfl)
            simp only [Act.put, List.setIfInBounds_toArray, List.set_cons_zero, List.set_cons_succ]
            refine drawn_done (by kernel_rfl) ?_
            clear d1 d2 d3
            go_wp2_with fail
            refine drawn_startX (Value.slice A3 ds1.length c3).ownBlock (by kernel_rfl) ?_
            refine take_atX (v := ?_) 0 rfl (by kernel_rfl) (by kernel_rfl) (by kernel_rfl) rfl (fun w' hw' => ?_) ?_; rotate_left; · (go_simp <;> with_reducible rfl)
            simp only [Act.put, List.setIfInBounds_toArray, List.set_cons_zero, List.set_cons_succ]
            refine take_atX (v := ?_) 1 rfl (by kernel_rfl) (by kernel_rfl) (by kernel_rfl) rfl (fun w' hw' => ?_) ?_; rotate_left; · (go_simp <;> with_reducible rfl)
            simp only [Act.put, List.setIfInBounds_toArray, List.set_cons_zero, List.set_cons_succ]
            refine take_atX (v := ?_) 2 rfl (by kernel_rfl) (by kernel_rfl) (by kernel_rfl) rfl (fun w' hw' => ?_) ?_; rotate_left; · (go_simp <;> with_reducible rfl)
            simp only [Act.put, List.setIfInBounds_toArray, List.set_cons_zero, List.set_cons_succ]
            refine take_atX (v := ?_) 3 rfl (by kernel_rfl) (by kernel_rfl) (by kernel_rfl) rfl (fun w' hw' => ?_) ?_; rotate_left; · (go_simp <;> with_reducible rfl)
            simp only [Act.put, List.setIfInBounds_toArray, List.set_cons_zero, List.set_cons_succ]
            refine take_atX (v := ?_) 4 rfl (by kernel_rfl) (by kernel_rfl) (by kernel_rfl) rfl (fun w' hw' => ?_) ?_; rotate_left; · (go_simp <;> with_reducible rfl)
            simp only [Act.put, List.setIfInBounds_toArray, List.set_cons_zero, List.set_cons_succ]
            refine take_atX (v := ?_) 5 rfl (by kernel_rfl) (by kernel_rfl) (by kernel_rfl) rfl (fun w' hw' => ?_) ?_; rotate_left; · (go_simp <;> with_reducible rfl)
            simp only [Act.put, List.setIfInBounds_toArray, List.set_cons_zero, List.set_cons_succ]
            refine take_atX (v := ?_) 6 rfl (by kernel_rfl) (by kernel_rfl) (by kernel_rfl) rfl (fun w' hw' => ?_) ?_; rotate_left; · (have hl := (hw'.2 ⟨g, k * 5 + 1, none⟩ hg3 hne).trans x1; go_simp <;> with_reducible rfl)
            simp only [Act.put, List.setIfInBounds_toArray, List.set_cons_zero, List.set_cons_succ]
            refine take_atX (v := ?_) 7 rfl (by kernel_rfl) (by kernel_rfl) (by kernel_rfl) rfl (fun w' hw' => ?_) ?_; rotate_left; · (go_simp <;> with_reducible rfl)
            simp only [Act.put, List.setIfInBounds_toArray, List.set_cons_zero, List.set_cons_succ]
            refine take_atX (v := ?_) 8 rfl (by kernel_rfl) (by kernel_rfl) (by kernel_rfl) rfl (fun w' hw' => ?_) ?_; rotate_left; · (go_simp <;> with_reducible rfl)
            simp only [Act.put, List.setIfInBounds_toArray, List.set_cons_zero, List.set_cons_succ]
            refine take_atX (v := ?_) 9 rfl (by kernel_rfl) (by kernel_rfl) (by kernel_rfl) rfl (fun w' hw' => ?_) ?_; rotate_left; · (go_simp <;> with_reducible rfl)
            simp only [Act.put, List.setIfInBounds_toArray, List.set_cons_zero, List.set_cons_succ]
            refine take_atX (v := ?_) 10 rfl (by kernel_rfl) (by kernel_rfl) (by kernel_rfl) rfl (fun w' hw' => ?_) ?_; rotate_left; · (go_simp <;> with_reducible rfl)
            simp only [Act.put, List.setIfInBounds_toArray, List.set_cons_zero, List.set_cons_succ]
            refine take_atX (v := ?_) 11 rfl (by kernel_rfl) (by kernel_rfl) (by kernel_rfl) rfl (fun w' hw' => ?_) ?_; rotate_left; · (have hl := (hw'.2 ⟨g, k * 5 + 2, none⟩ hg3 hne).trans x2; go_simp <;> with_reducible rfl)
            simp only [Act.put, List.setIfInBounds_toArray, List.set_cons_zero, List.set_cons_succ]
            refine take_atX (v := ?_) 12 rfl (by kernel_rfl) (by kernel_rfl) (by kernel_rfl) rfl (fun w' hw' => ?_) ?_; rotate_left; · (go_simp <;> with_reducible rfl)
            simp only [Act.put, List.setIfInBounds_toArray, List.set_cons_zero, List.set_cons_succ]
            refine sole_atX 13 (by kernel_rfl) rfl rfl (fun K hK => ?_)
            refine wp_appBG (.tmp 93) (.tmp 105) rfl w1.heap.size A3 c3 ds1 rfl hown3 A4 s2.length c4 s2 rfl rfl (hrds2 _ hrd3) (by omega) (by show w1.heap.size ≤ w3.heap.size; omega) ?_
            intro A5 c5 w5 ds2 hd2 hown5 hB5 hg5; have hd2' := hide hd2; have hdl2 : ds2.length ≤ 19400 := (by rw [hd2]; simp; omega); clear hd2
            refine hK.out _ _ (laterX_grown hg5) ?_
            clear hK K
            simp only [Act.put, List.setIfInBounds_toArray, List.set_cons_zero, List.set_cons_succ]
            refine take_atX (v := ?_) 14 rfl (by kernel_rfl) (by kernel_rfl) (by kernel_rfl) rfl (fun w' hw' => ?_) ?_; rotate_left; · (go_simp <;> with_reducible rfl)
            simp only [Act.put, List.setIfInBounds_toArray, List.set_cons_zero, List.set_cons_succ]
            refine drawn_doneX (by kernel_rfl) ?_
            have hbl5 : Below w1.heap.size w1 w5 := (hbl3.drew.drew).trans (hB5.mono (by omega))
            have hsz5 := hbl5.size
            by_cases hbg : 16384 < ds2.length
            · have hbg' : (16384 : Int) < ds2.length := by omega
              go_wp2_with fail
              refine (wakes_any _).mono ?_
              rintro e w6 ⟨rfl, hb6⟩
              go_wp2_with fail
              go_ret
              exact ⟨rfl, hb1.trans ((hbl5.trans (hb6.mono (by omega))).mono hsz1)⟩
            · have hbg' : ¬ (16384 : Int) < ds2.length := by omega
              go_wp2_with fail
              go_roundw
              case rel =>
                refine ⟨k + 1, A5, c5, ds2, by omega, by go_num, rfl, by omega, hown5, fun _ => ?_, fun h => by omega, hbl5⟩
                have h1 := woven_snoc (wAt hs) bs ts k hkt
                have h2 := hpre'.out (by omega)
                rw [h1, ← ht'.out, ← hs4'.out, ← hs2.out] at h2
                rw [hd2'.out, hd1'.out, ← h2]
                simp only [List.append_assoc]
              case measure => simp [intOf]; omega
          · have hke : k = ts.length := by omega
            have hke' := hide hke; clear hke
            have hkt' : (ts.length : Int) ≤ k := by omega
            have hk3 : k < ts.length + 1 := by omega
            go_wp2_with (at_builtin; refine wpList_appBS rfl (.tmp 54) (.tmp 58) rfl w1.heap.size A' c' ds rfl (hown.alloc _) s rfl (by omega) (by simp; omega) ?_; intro A3 c3 w3 ds1 hd1 hown3 hB3; have hd1' := hide hd1; have hdl1 : ds1.length ≤ 16392 := (by rw [hd1]; simp; omega); clear hd1; have hbl3 : Below w1.heap.size w1 w3 := (hbl.alloc (by omega) _).trans hB3; have hsz3 := hbl3.size)
            · refine (wakes_any _).mono ?_
              rintro e w6 ⟨rfl, hb6⟩
              go_wp2_with fail
              go_ret
              exact ⟨rfl, hb1.trans ((hbl3.trans (hb6.mono (by omega))).mono hsz1)⟩
            · go_roundw
              case rel =>
                refine ⟨k + 1, A3, c3, ds1, by omega, by go_num, rfl, by omega, hown3, fun h => by omega, fun _ => ?_, hbl3⟩
                have h2 := hpre'.out (by omega)
                have e1 : ts.drop k = [] := List.drop_eq_nil_of_le (by omega)
                rw [e1, woven, ← hs2.out] at h2
                rw [hd1'.out, ← h2]
              case measure => simp [intOf]; omega
      · have hk1 : ¬ (k : Int) ≤ ts.length := by omega
        have hke : ds = tot := hend'.out (by omega)
        obtain ⟨us, hsc, hus⟩ := scans_woven (fun i => wAt_blank hs i) bs ts 0 0 0 (at_zero hm'.out)
        have hul := scans_len hsc
        rw [← htot'.out, ← hke] at hsc hul
        have hms : mScan ds = .ok us := by
          rw [mScan_small hdl, scans_det hsc]
          rfl
        have hms' := hide hms; have hus' := hide hus
        clear hms hus hsc hke
        have hown1r : OwnT wr w.heap.size A1 c1 ts := hown1.keep hbl
        have hdle := hown.le
        have hdrd := hown.rd
        go_wp2_with fail
        refine (lexScan_any A' c' ds _ hdrd hdle (by omega)).mono ?_
        rintro e w3 ⟨hres3, hb3⟩
        rw [hms'.out] at hres3
        obtain ⟨A3, c3, rfl, hown3⟩ := hres3
        have hsz3 := hb3.size
        have hown1s : OwnT w3 w.heap.size A1 c1 ts := hown1r.keep hb3
        clear hown1r hown hdrd
        go_wp2_with fail
        refine (bare_any A1 c1 ts _ (hown1s.rd (fun _ => rfl)) (by omega)).mono ?_
        rintro e w4 ⟨⟨A4, c4, rfl, hown4⟩, hb4⟩
        have hsz4 := hb4.size
        go_wp2_with fail
        refine (bare_any A3 c3 us _ ((hown3.keep hb4).rd (fun _ => rfl)) (by omega)).mono ?_
        rintro e w5 ⟨⟨A5, c5, rfl, hown5⟩, hb5⟩
        have hsz5 := hb5.size
        have hkt := keepTokens_any A4 A5 c4 c5 _ _ w5 ((hown4.keep hb5).rd (fun _ => rfl)) (hown5.rd (fun _ => rfl)) (by simp; omega) (by simp; omega)
        have hdec : decide (ts.map Tok.nude = us.map Tok.nude) = true := by rw [hus'.out]; simp
        rw [hdec] at hkt
        simp only [List.length_map] at hkt
        have hkt' := hide hkt; clear hkt hdec
        go_wp2_with fail
        refine (Calls.mono hkt'.out ?_)
        rintro e w6 ⟨rfl, hb6⟩
        have hsz6 := hb6.size
        go_wp2_with fail
        refine (wakes_any _).mono ?_
        rintro e w7 ⟨rfl, hb7⟩
        go_wp2_with fail
        go_ret
        exact ⟨rfl, hb1.trans ((((((hbl.trans (hb3.mono (by omega))).trans (hb4.mono (by omega))).trans (hb5.mono (by omega))).trans (hb6.mono (by omega))).trans (hb7.mono (by omega))).mono hsz1)⟩

end Go.Proofs.Ytbinmbjcijndhaa
