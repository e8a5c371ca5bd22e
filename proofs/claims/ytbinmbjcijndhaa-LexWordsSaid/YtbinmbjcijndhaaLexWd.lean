/- The law LexWords: a number's text, a text's text, a key word, a right name are one token; a word that is too long is refused at its beginning. -/
import Derived.Test.YtbinmbjcijndhaaLexX
import Derived.Test.YtbinmbjcijndhaaLexS
import Derived.Test.YtbinmbjcijndhaaLexD
import Derived.Test.YtbinmbjcijndhaaLexQ3
import Derived.Test.YtbinmbjcijndhaaDrawn
namespace Go.Proofs.Ytbinmbjcijndhaa
open Go Go.RowKit

set_option maxHeartbeats 2000000
set_option maxRecDepth 100000

/-- a string's bytes, laid anew -/
theorem conv_to (w : World) (l : List UInt8) : ∃ A c w1, (convert 9 22 (.string ⟨l.toArray⟩)).run Try.prog w = .ok (.slice A l.length c) w1 ∧ RdB w1 A l ∧ l.length ≤ c ∧ Below w.heap.size w w1 := by
  have h := run_bytes_of_string (P := Try.prog) w 9 22 5 ⟨l.toArray⟩ Try.underlying9 Try.underlying22 Try.underlying5
  refine ⟨_, _, _, h, ?_, grownCap_ge _ _ _ _, ((Below.refl _ _).drew).alloc (Nat.le_refl _) _⟩
  intro j hj
  refine ⟨_, rfl, ?_⟩
  have e : (⟨w.heap.size, 0, none⟩ : Addr).add j = ⟨w.heap.size, j, none⟩ := by unfold Addr.add; split <;> simp_all
  rw [e, cell_of_row _ w.heap.size j _ _ _ (heap_alloc_new w.drew _), bytesRow_at _ _ _ (by simpa using hj)]
  simp

theorem lexWords_any (a0 : ByteArray) (n : Int) (a2 : ByteArray) (w : World) (w0 : a0.size ≤ maxLen) (w1 : (Lit.int .i64 n).wf = true) (w2 : a2.size ≤ maxLen) :
    Calls Try.prog 7 #[.string a0, .int .i64 n, .string a2] w fun e w' => e = .returned (.bool true) ∧ Below w.heap.size w w' := by
  obtain ⟨s, rfl⟩ : ∃ s : List UInt8, a0 = ⟨s.toArray⟩ := ⟨a0.data.toList, by simp⟩
  obtain ⟨t, rfl⟩ : ∃ t : List UInt8, a2 = ⟨t.toArray⟩ := ⟨a2.data.toList, by simp⟩
  have hsl : s.length ≤ 9223372036854775807 := by simpa [ByteArray.size, maxLen] using w0
  have htl : t.length ≤ 9223372036854775807 := by simpa [ByteArray.size, maxLen] using w2
  clear w0 w2
  have hn : -9223372036854775808 ≤ n ∧ n ≤ 9223372036854775807 := by
    simp only [Lit.wf, Bool.and_eq_true, decide_eq_true_eq] at w1
    exact w1
  clear w1
  obtain ⟨hn1, hn2⟩ := hn
  by_cases hbig : 100 < s.length
  · have hbig' : (100 : Int) < s.length := by omega
    go_enter Try.func7, Try.ntmps7
    go_wp2_with fail
    go_ret
    exact ⟨rfl, Below.refl _ _⟩
  have hbig' : (s.length : Int) ≤ 100 := by omega
  by_cases hbig2 : 200 < t.length
  · have hbig2' : (200 : Int) < t.length := by omega
    go_enter Try.func7, Try.ntmps7
    go_wp2_with fail
    go_ret
    exact ⟨rfl, Below.refl _ _⟩
  have hbig2' : (t.length : Int) ≤ 200 := by omega
  have ht2 : t.length ≤ 200 := by omega
  have hq1 : quoV t = mLong t := by simp [quoV, mQuote, ht2]
  have hq2 : quoE t = 0 := by simp [quoE, mQuote, ht2]
  have hq := refQuote_any t w (by omega)
  rw [hq1, hq2] at hq
  have hq' := hide hq; clear hq hq1 hq2
  have hsn := hide (scan_num hn1 hn2)
  have hst := hide (scan_quote (t := t) (by omega))
  have hll := long_len t
  have hnl := mNum_len hn1 hn2
  go_enter Try.func7, Try.ntmps7
  go_wp2_with fail
  refine (Calls.mono hq'.out ?_)
  rintro e w1 ⟨rfl, hb1⟩
  have hsz1 := hb1.size
  go_wp2_with fail
  refine (refNum_any n hn1 hn2 _).mono ?_
  rintro e w' ⟨rfl, rfl⟩
  obtain ⟨A1, c1, w2, hc1, hr1, hl1, hb2⟩ := conv_to w1 (mNum n)
  have hsz2 := hb2.size
  go_wp2_with fail
  refine (lexScan_any A1 c1 (mNum n) _ hr1 hl1 (by omega)).mono ?_
  rintro e w3 ⟨hres3, hb3⟩
  have hsz3 := hb3.size
  rw [hsn.out] at hres3
  obtain ⟨A3, c3, rfl, hown3⟩ := hres3
  clear hc1 hr1
  obtain ⟨A4, c4, w4, hc4, hr4, hl4, hb4⟩ := conv_to w3 (mLong t)
  have hsz4 := hb4.size
  go_wp2_with fail
  refine (lexScan_any A4 c4 (mLong t) _ hr4 hl4 (by omega)).mono ?_
  rintro e w5 ⟨hres5, hb5⟩
  have hsz5 := hb5.size
  rw [hst.out] at hres5
  obtain ⟨A5, c5, rfl, hown5⟩ := hres5
  clear hc4 hr4
  obtain ⟨g3, rfl, hg3, x0, x1, x2, x3, x4⟩ := own_cells ((hown3.keep hb4).keep hb5) (j := 0) (by simp)
  obtain ⟨g5, rfl, hg5, y0, y1, y2, y3, y4⟩ := own_cells hown5 (j := 0) (by simp)
  simp only [Nat.zero_mul, Nat.zero_add, List.getElem_cons_zero] at x0 x4 y0 y3
  have hb15 : Below w.heap.size w w5 := hb1.trans ((((hb2.trans (hb3.mono hsz2)).trans (hb4.mono (by omega))).trans (hb5.mono (by omega))).mono hsz1)
  clear hown3 hown5 hb2 hb3 hb4 hb5 hb1
  obtain ⟨A6, c6, w6, hc6, hr6, hl6, hb6⟩ := conv_to w5 (32 :: s)
  go_wp2_with fail
  have hsz6 := hb6.size
  have hk1 := refKey_any s w6 (by omega)
  by_cases hword : mKey s = true ∨ mName s = true
  · obtain ⟨hs32, hsc⟩ := scan_word hword
    have hsc' := hide hsc; clear hsc
    refine (lexScan_any A6 c6 (32 :: s) _ hr6 hl6 (by simp; omega)).mono ?_
    rintro e w7 ⟨hres7, hb7⟩
    have hsz7 := hb7.size
    rw [hsc'.out] at hres7
    obtain ⟨A7, c7, rfl, hown7⟩ := hres7
    obtain ⟨g7, rfl, hg7, z0, z1, z2, z3, z4⟩ := own_cells hown7 (j := 0) (by simp)
    simp only [Nat.zero_mul, Nat.zero_add, List.getElem_cons_zero] at z0 z1 z2 z3 z4
    rw [Int.natCast_add] at z2
    have hb17 : Below w.heap.size w w7 := hb15.trans ((hb6.trans (hb7.mono hsz6)).mono (by omega))
    clear hown7 hb6 hb7 hb15 hc6 hr6
    cases hkey : mKey s
    · have hkey' := hide hkey
      rw [hkey] at hword
      have e1 : (((if mKey s = true then 2 else 1 : Nat) : Nat) : Int) = 1 := by rw [hkey]; rfl
      rw [e1] at z0
      have hnm : mName s = true := by simpa using hword
      have hnm' := hide hnm; clear hnm hword hkey e1
      obtain ⟨W, hW⟩ : ∃ W, W = w7.alloc (.cells #[.int .i64 1, .int .i64 1, .int .i64 (1 + s.length), .string ⟨s.toArray⟩, .int .i64 0] 32) := ⟨_, rfl⟩
      have hbW : Below w7.heap.size w7 W := by rw [hW]; exact (Below.refl _ _).alloc (Nat.le_refl _) _
      have hsW : w7.heap.size < W.heap.size := by rw [hW]; simp
      have hgW : g7 < W.heap.size := Nat.lt_trans hg7 hsW
      have u0 : W.cell? ⟨w7.heap.size, 0, none⟩ = some (.int .i64 1) := by rw [hW]; go_simp
      have u1 : W.cell? ⟨w7.heap.size, 1, none⟩ = some (.int .i64 1) := by rw [hW]; go_simp
      have u2 : W.cell? ⟨w7.heap.size, 2, none⟩ = some (.int .i64 (1 + s.length)) := by rw [hW]; go_simp
      have u3 : W.cell? ⟨w7.heap.size, 3, none⟩ = some (.string ⟨s.toArray⟩) := by rw [hW]; go_simp
      have u4 : W.cell? ⟨w7.heap.size, 4, none⟩ = some (.int .i64 0) := by rw [hW]; go_simp
      have z0 := (bcell hbW g7 0 hg7).trans z0
      have z1 := (bcell hbW g7 1 hg7).trans z1
      have z2 := (bcell hbW g7 2 hg7).trans z2
      have z3 := (bcell hbW g7 3 hg7).trans z3
      have z4 := (bcell hbW g7 4 hg7).trans z4
      have hW' := hide hW; clear hW
      go_wp2_with (first | (go_at_call 15; with_reducible refine (refKey_any s _ (by omega)).mono ?_; rintro e w' ⟨rfl, rfl⟩; rw [hkey'.out]) | (go_at_call 16; with_reducible refine (refName_any s _ (by omega)).mono ?_; rintro e w' ⟨rfl, rfl⟩; rw [hnm'.out]))
      rw [← hW'.out]
      refine drawn_start (by kernel_rfl) ?_
      refine take_at (v := ?_) 0 rfl (by kernel_rfl) (by kernel_rfl) (by kernel_rfl) rfl (fun w' hw' => ?_) ?_; rotate_left; · (go_simp <;> with_reducible rfl)
      simp only [Act.put, List.setIfInBounds_toArray, List.set_cons_zero, List.set_cons_succ]
      refine take_at (v := ?_) 1 rfl (by kernel_rfl) (by kernel_rfl) (by kernel_rfl) rfl (fun w' hw' => ?_) ?_; rotate_left; · (go_simp <;> with_reducible rfl)
      simp only [Act.put, List.setIfInBounds_toArray, List.set_cons_zero, List.set_cons_succ]
      refine take_at (v := ?_) 2 rfl (by kernel_rfl) (by kernel_rfl) (by kernel_rfl) rfl (fun w' hw' => ?_) ?_; rotate_left; · (go_simp <;> with_reducible rfl)
      simp only [Act.put, List.setIfInBounds_toArray, List.set_cons_zero, List.set_cons_succ]
      refine take_at (v := ?_) 3 rfl (by kernel_rfl) (by kernel_rfl) (by kernel_rfl) rfl (fun w' hw' => ?_) ?_; rotate_left; · (go_simp <;> with_reducible rfl)
      simp only [Act.put, List.setIfInBounds_toArray, List.set_cons_zero, List.set_cons_succ]
      refine take_at (v := ?_) 4 rfl (by kernel_rfl) (by kernel_rfl) (by kernel_rfl) rfl (fun w' hw' => ?_) ?_; rotate_left; · (go_simp <;> with_reducible rfl)
      simp only [Act.put, List.setIfInBounds_toArray, List.set_cons_zero, List.set_cons_succ]
      refine take_at (v := ?_) 5 rfl (by kernel_rfl) (by kernel_rfl) (by kernel_rfl) rfl (fun w' hw' => ?_) ?_; rotate_left; · (go_simp <;> with_reducible rfl)
      simp only [Act.put, List.setIfInBounds_toArray, List.set_cons_zero, List.set_cons_succ]
      refine take_at (v := ?_) 6 rfl (by kernel_rfl) (by kernel_rfl) (by kernel_rfl) rfl (fun w' hw' => ?_) ?_; rotate_left; · (go_simp <;> with_reducible rfl)
      simp only [Act.put, List.setIfInBounds_toArray, List.set_cons_zero, List.set_cons_succ]
      refine take_at (v := ?_) 7 rfl (by kernel_rfl) (by kernel_rfl) (by kernel_rfl) rfl (fun w' hw' => ?_) ?_; rotate_left; · (go_simp <;> with_reducible rfl)
      simp only [Act.put, List.setIfInBounds_toArray, List.set_cons_zero, List.set_cons_succ]
      refine take_at (v := ?_) 8 rfl (by kernel_rfl) (by kernel_rfl) (by kernel_rfl) rfl (fun w' hw' => ?_) ?_; rotate_left; · (go_simp <;> with_reducible rfl)
      simp only [Act.put, List.setIfInBounds_toArray, List.set_cons_zero, List.set_cons_succ]
      refine take_at (v := ?_) 9 rfl (by kernel_rfl) (by kernel_rfl) (by kernel_rfl) rfl (fun w' hw' => ?_) ?_; rotate_left; · (go_simp <;> with_reducible rfl)
      simp only [Act.put, List.setIfInBounds_toArray, List.set_cons_zero, List.set_cons_succ]
      refine take_at (v := ?_) 10 rfl (by kernel_rfl) (by kernel_rfl) (by kernel_rfl) rfl (fun w' hw' => ?_) ?_; rotate_left; · (have l0 := (hw'.2 ⟨g7, 0, none⟩ hgW).trans z0; have l1 := (hw'.2 ⟨g7, 1, none⟩ hgW).trans z1; have l2 := (hw'.2 ⟨g7, 2, none⟩ hgW).trans z2; have l3 := (hw'.2 ⟨g7, 3, none⟩ hgW).trans z3; have l4 := (hw'.2 ⟨g7, 4, none⟩ hgW).trans z4; go_simp <;> with_reducible rfl)
      simp only [Act.put, List.setIfInBounds_toArray, List.set_cons_zero, List.set_cons_succ]
      refine take_at (v := ?_) 11 rfl (by kernel_rfl) (by kernel_rfl) (by kernel_rfl) rfl (fun w' hw' => ?_) ?_; rotate_left; · (have m0 := (hw'.2 ⟨w7.heap.size, 0, none⟩ hsW).trans u0; have m1 := (hw'.2 ⟨w7.heap.size, 1, none⟩ hsW).trans u1; have m2 := (hw'.2 ⟨w7.heap.size, 2, none⟩ hsW).trans u2; have m3 := (hw'.2 ⟨w7.heap.size, 3, none⟩ hsW).trans u3; have m4 := (hw'.2 ⟨w7.heap.size, 4, none⟩ hsW).trans u4; go_simp <;> with_reducible rfl)
      simp only [Act.put, List.setIfInBounds_toArray, List.set_cons_zero, List.set_cons_succ]
      refine take_at (v := ?_) 12 rfl (by kernel_rfl) (by kernel_rfl) (by kernel_rfl) rfl (fun w' hw' => ?_) ?_; rotate_left; · (go_simp <;> with_reducible rfl)
      simp only [Act.put, List.setIfInBounds_toArray, List.set_cons_zero, List.set_cons_succ]
      refine take_at (v := ?_) 13 rfl (by kernel_rfl) (by kernel_rfl) (by kernel_rfl) rfl (fun w' hw' => ?_) ?_; rotate_left; · (go_simp <;> with_reducible rfl)
      simp only [Act.put, List.setIfInBounds_toArray, List.set_cons_zero, List.set_cons_succ]
      refine take_at (v := ?_) 14 rfl (by kernel_rfl) (by kernel_rfl) (by kernel_rfl) rfl (fun w' hw' => ?_) ?_; rotate_left; · (go_simp <;> with_reducible rfl)
      simp only [Act.put, List.setIfInBounds_toArray, List.set_cons_zero, List.set_cons_succ]
      refine sole_at 15 (by kernel_rfl) rfl rfl (fun K hK => ?_)
      go_simp
      refine (wakes_any _).mono ?_
      rintro e w8 ⟨rfl, hb8⟩
      go_wp2_with fail
      refine hK.out _ _ ?_ ?_; · exact later_of hb8
      clear hK K
      refine take_at (v := ?_) 16 rfl (by kernel_rfl) (by kernel_rfl) (by kernel_rfl) rfl (fun w' hw' => ?_) ?_; rotate_left; · (go_simp <;> with_reducible rfl)
      simp only [Act.put, List.setIfInBounds_toArray, List.set_cons_zero, List.set_cons_succ]
      refine take_at (v := ?_) 17 rfl (by kernel_rfl) (by kernel_rfl) (by kernel_rfl) rfl (fun w' hw' => ?_) ?_; rotate_left; · (go_simp <;> with_reducible rfl)
      simp only [Act.put, List.setIfInBounds_toArray, List.set_cons_zero, List.set_cons_succ]
      refine drawn_done (by kernel_rfl) ?_
      have hszW := hbW.size
      go_wp2_with fail
      go_ret
      exact ⟨rfl, ((hb17.trans (hbW.mono hb17.size)).drew).trans (hb8.mono (show w.heap.size ≤ W.heap.size from Nat.le_trans hb17.size hszW))⟩

    · have hkey' := hide hkey
      have e1 : (((if mKey s = true then 2 else 1 : Nat) : Nat) : Int) = 2 := by rw [hkey]; rfl
      rw [e1] at z0
      clear hword hkey e1
      obtain ⟨W, hW⟩ : ∃ W, W = w7.alloc (.cells #[.int .i64 2, .int .i64 1, .int .i64 (1 + s.length), .string ⟨s.toArray⟩, .int .i64 0] 32) := ⟨_, rfl⟩
      have hbW : Below w7.heap.size w7 W := by rw [hW]; exact (Below.refl _ _).alloc (Nat.le_refl _) _
      have hsW : w7.heap.size < W.heap.size := by rw [hW]; simp
      have hgW : g7 < W.heap.size := Nat.lt_trans hg7 hsW
      have u0 : W.cell? ⟨w7.heap.size, 0, none⟩ = some (.int .i64 2) := by rw [hW]; go_simp
      have u1 : W.cell? ⟨w7.heap.size, 1, none⟩ = some (.int .i64 1) := by rw [hW]; go_simp
      have u2 : W.cell? ⟨w7.heap.size, 2, none⟩ = some (.int .i64 (1 + s.length)) := by rw [hW]; go_simp
      have u3 : W.cell? ⟨w7.heap.size, 3, none⟩ = some (.string ⟨s.toArray⟩) := by rw [hW]; go_simp
      have u4 : W.cell? ⟨w7.heap.size, 4, none⟩ = some (.int .i64 0) := by rw [hW]; go_simp
      have z0 := (bcell hbW g7 0 hg7).trans z0
      have z1 := (bcell hbW g7 1 hg7).trans z1
      have z2 := (bcell hbW g7 2 hg7).trans z2
      have z3 := (bcell hbW g7 3 hg7).trans z3
      have z4 := (bcell hbW g7 4 hg7).trans z4
      have hW' := hide hW; clear hW
      go_wp2_with ((go_at_call 15; with_reducible refine (refKey_any s _ (by omega)).mono ?_; rintro e w' ⟨rfl, rfl⟩; rw [hkey'.out]))
      rw [← hW'.out]
      refine drawn_start (by kernel_rfl) ?_
      refine take_at (v := ?_) 0 rfl (by kernel_rfl) (by kernel_rfl) (by kernel_rfl) rfl (fun w' hw' => ?_) ?_; rotate_left; · (go_simp <;> with_reducible rfl)
      simp only [Act.put, List.setIfInBounds_toArray, List.set_cons_zero, List.set_cons_succ]
      refine take_at (v := ?_) 1 rfl (by kernel_rfl) (by kernel_rfl) (by kernel_rfl) rfl (fun w' hw' => ?_) ?_; rotate_left; · (go_simp <;> with_reducible rfl)
      simp only [Act.put, List.setIfInBounds_toArray, List.set_cons_zero, List.set_cons_succ]
      refine take_at (v := ?_) 2 rfl (by kernel_rfl) (by kernel_rfl) (by kernel_rfl) rfl (fun w' hw' => ?_) ?_; rotate_left; · (go_simp <;> with_reducible rfl)
      simp only [Act.put, List.setIfInBounds_toArray, List.set_cons_zero, List.set_cons_succ]
      refine take_at (v := ?_) 3 rfl (by kernel_rfl) (by kernel_rfl) (by kernel_rfl) rfl (fun w' hw' => ?_) ?_; rotate_left; · (go_simp <;> with_reducible rfl)
      simp only [Act.put, List.setIfInBounds_toArray, List.set_cons_zero, List.set_cons_succ]
      refine take_at (v := ?_) 4 rfl (by kernel_rfl) (by kernel_rfl) (by kernel_rfl) rfl (fun w' hw' => ?_) ?_; rotate_left; · (go_simp <;> with_reducible rfl)
      simp only [Act.put, List.setIfInBounds_toArray, List.set_cons_zero, List.set_cons_succ]
      refine take_at (v := ?_) 5 rfl (by kernel_rfl) (by kernel_rfl) (by kernel_rfl) rfl (fun w' hw' => ?_) ?_; rotate_left; · (go_simp <;> with_reducible rfl)
      simp only [Act.put, List.setIfInBounds_toArray, List.set_cons_zero, List.set_cons_succ]
      refine take_at (v := ?_) 6 rfl (by kernel_rfl) (by kernel_rfl) (by kernel_rfl) rfl (fun w' hw' => ?_) ?_; rotate_left; · (go_simp <;> with_reducible rfl)
      simp only [Act.put, List.setIfInBounds_toArray, List.set_cons_zero, List.set_cons_succ]
      refine take_at (v := ?_) 7 rfl (by kernel_rfl) (by kernel_rfl) (by kernel_rfl) rfl (fun w' hw' => ?_) ?_; rotate_left; · (go_simp <;> with_reducible rfl)
      simp only [Act.put, List.setIfInBounds_toArray, List.set_cons_zero, List.set_cons_succ]
      refine take_at (v := ?_) 8 rfl (by kernel_rfl) (by kernel_rfl) (by kernel_rfl) rfl (fun w' hw' => ?_) ?_; rotate_left; · (go_simp <;> with_reducible rfl)
      simp only [Act.put, List.setIfInBounds_toArray, List.set_cons_zero, List.set_cons_succ]
      refine take_at (v := ?_) 9 rfl (by kernel_rfl) (by kernel_rfl) (by kernel_rfl) rfl (fun w' hw' => ?_) ?_; rotate_left; · (go_simp <;> with_reducible rfl)
      simp only [Act.put, List.setIfInBounds_toArray, List.set_cons_zero, List.set_cons_succ]
      refine take_at (v := ?_) 10 rfl (by kernel_rfl) (by kernel_rfl) (by kernel_rfl) rfl (fun w' hw' => ?_) ?_; rotate_left; · (have l0 := (hw'.2 ⟨g7, 0, none⟩ hgW).trans z0; have l1 := (hw'.2 ⟨g7, 1, none⟩ hgW).trans z1; have l2 := (hw'.2 ⟨g7, 2, none⟩ hgW).trans z2; have l3 := (hw'.2 ⟨g7, 3, none⟩ hgW).trans z3; have l4 := (hw'.2 ⟨g7, 4, none⟩ hgW).trans z4; go_simp <;> with_reducible rfl)
      simp only [Act.put, List.setIfInBounds_toArray, List.set_cons_zero, List.set_cons_succ]
      refine take_at (v := ?_) 11 rfl (by kernel_rfl) (by kernel_rfl) (by kernel_rfl) rfl (fun w' hw' => ?_) ?_; rotate_left; · (have m0 := (hw'.2 ⟨w7.heap.size, 0, none⟩ hsW).trans u0; have m1 := (hw'.2 ⟨w7.heap.size, 1, none⟩ hsW).trans u1; have m2 := (hw'.2 ⟨w7.heap.size, 2, none⟩ hsW).trans u2; have m3 := (hw'.2 ⟨w7.heap.size, 3, none⟩ hsW).trans u3; have m4 := (hw'.2 ⟨w7.heap.size, 4, none⟩ hsW).trans u4; go_simp <;> with_reducible rfl)
      simp only [Act.put, List.setIfInBounds_toArray, List.set_cons_zero, List.set_cons_succ]
      refine take_at (v := ?_) 12 rfl (by kernel_rfl) (by kernel_rfl) (by kernel_rfl) rfl (fun w' hw' => ?_) ?_; rotate_left; · (go_simp <;> with_reducible rfl)
      simp only [Act.put, List.setIfInBounds_toArray, List.set_cons_zero, List.set_cons_succ]
      refine take_at (v := ?_) 13 rfl (by kernel_rfl) (by kernel_rfl) (by kernel_rfl) rfl (fun w' hw' => ?_) ?_; rotate_left; · (go_simp <;> with_reducible rfl)
      simp only [Act.put, List.setIfInBounds_toArray, List.set_cons_zero, List.set_cons_succ]
      refine take_at (v := ?_) 14 rfl (by kernel_rfl) (by kernel_rfl) (by kernel_rfl) rfl (fun w' hw' => ?_) ?_; rotate_left; · (go_simp <;> with_reducible rfl)
      simp only [Act.put, List.setIfInBounds_toArray, List.set_cons_zero, List.set_cons_succ]
      refine sole_at 15 (by kernel_rfl) rfl rfl (fun K hK => ?_)
      go_simp
      refine (wakes_any _).mono ?_
      rintro e w8 ⟨rfl, hb8⟩
      go_wp2_with fail
      refine hK.out _ _ ?_ ?_; · exact later_of hb8
      clear hK K
      refine take_at (v := ?_) 16 rfl (by kernel_rfl) (by kernel_rfl) (by kernel_rfl) rfl (fun w' hw' => ?_) ?_; rotate_left; · (go_simp <;> with_reducible rfl)
      simp only [Act.put, List.setIfInBounds_toArray, List.set_cons_zero, List.set_cons_succ]
      refine take_at (v := ?_) 17 rfl (by kernel_rfl) (by kernel_rfl) (by kernel_rfl) rfl (fun w' hw' => ?_) ?_; rotate_left; · (go_simp <;> with_reducible rfl)
      simp only [Act.put, List.setIfInBounds_toArray, List.set_cons_zero, List.set_cons_succ]
      refine drawn_done (by kernel_rfl) ?_
      have hszW := hbW.size
      go_wp2_with fail
      go_ret
      exact ⟨rfl, ((hb17.trans (hbW.mono hb17.size)).drew).trans (hb8.mono (show w.heap.size ≤ W.heap.size from Nat.le_trans hb17.size hszW))⟩
  · have hkey : mKey s = false := by
      cases h : mKey s
      · rfl
      · exact absurd (.inl h) hword
    have hnm : mName s = false := by
      cases h : mName s
      · rfl
      · exact absurd (.inr h) hword
    have hkey' := hide hkey; have hnm' := hide hnm
    have hshape : ∃ (q : Int) (g : Int), Hid (s = [] → g = 0) ∧ Hid (s ≠ [] → s.all isSmall = true → g = 3 ∧ q = 1 ∧ 32 < s.length) ∧ Calls Try.prog 8 #[.slice A6 (s.length + 1) c6] w6 fun e w' => (∃ A7 n7 c7, e = .returned (.tuple #[.slice A7 n7 c7, .int .i64 q, .int .i64 g])) ∧ Below w6.heap.size w6 w' := by
      have hcall := lexScan_any A6 c6 (32 :: s) w6 hr6 hl6 (by simp; omega)
      cases hm : mScan (32 :: s) with
      | ok ts =>
        refine ⟨0, 0, hide (fun _ => rfl), hide (fun hne ha => ?_), hcall.mono ?_⟩
        · obtain ⟨_, h⟩ := scan_nword hkey hnm ha hne (by omega)
          rw [hm] at h
          cases h
        · rintro e w' ⟨hres, hb⟩
          rw [hm] at hres
          obtain ⟨A7, c7, rfl, _⟩ := hres
          exact ⟨⟨A7, _, c7, rfl⟩, hb⟩
      | error p =>
        refine ⟨p, 3, hide (fun h => ?_), hide (fun hne ha => ?_), hcall.mono ?_⟩
        · rw [h, scan_space] at hm
          cases hm
        · obtain ⟨h1, h2⟩ := scan_nword hkey hnm ha hne (by omega)
          rw [hm] at h2
          cases h2
          exact ⟨rfl, rfl, h1⟩
        · rintro e w' ⟨hres, hb⟩
          rw [hm] at hres
          obtain rfl : e = _ := hres
          exact ⟨⟨none, 0, 0, rfl⟩, hb⟩
    obtain ⟨q, g, hg0, hg3', hcall⟩ := hshape
    clear hkey hnm hword
    refine hcall.mono ?_
    rintro e w7 ⟨⟨A7, n7, c7, rfl⟩, hb7⟩
    have hsz7 := hb7.size
    have hb17 : Below w.heap.size w w7 := hb15.trans ((hb6.trans (hb7.mono hsz6)).mono (by omega))
    have hsz17 := hb17.size
    clear hb6 hb7 hb15 hc6 hr6 hcall
    go_wp2_with (first | (go_at_call 15; with_reducible refine (refKey_any s _ (by omega)).mono ?_; rintro e w' ⟨rfl, rfl⟩; rw [hkey'.out]) | (go_at_call 16; with_reducible refine (refName_any s _ (by omega)).mono ?_; rintro e w' ⟨rfl, rfl⟩; rw [hnm'.out]))
    go_loop [19] (fun i => ∃ k : Nat, k ≤ s.length ∧ i = .int .i64 k ∧ (s.take k).all isSmall = true) (fun i => s.length - (intOf i).toNat)
    case atStart => exact ⟨0, by omega, rfl, rfl⟩
    case round =>
      obtain ⟨k, hk, rfl, hall⟩ := hrel
      have hall' := hide hall; clear hall
      by_cases hlt : k < s.length
      · obtain ⟨y, hy, hdy⟩ := str_at s hlt
        have hdy' := hide hdy; clear hdy
        have hlt' : (k : Int) < s.length := by omega
        cases hp : isSmall y
        · have hp2 : y.toNat < 97 ∨ (97 ≤ y.toNat ∧ 122 < y.toNat) := by
            simp only [isSmall, Bool.and_eq_false_iff, decide_eq_false_iff_not] at hp
            omega
          clear hp
          rcases hp2 with hp2 | ⟨hp1, hp2⟩
          · have hp3 : (y.toNat : Int) < 97 := by omega
            go_wp2_with fail
            refine (wakes_any _).mono ?_
            rintro e w8 ⟨rfl, hb8⟩
            go_wp2_with fail
            go_ret
            exact ⟨rfl, hb17.trans (hb8.mono hsz17)⟩
          · have hp3 : (97 : Int) ≤ y.toNat := by omega
            have hp4 : (122 : Int) < y.toNat := by omega
            go_wp2_with fail
            refine (wakes_any _).mono ?_
            rintro e w8 ⟨rfl, hb8⟩
            go_wp2_with fail
            go_ret
            exact ⟨rfl, hb17.trans (hb8.mono hsz17)⟩
        · have hp2 : 97 ≤ y.toNat ∧ y.toNat ≤ 122 := by simpa [isSmall] using hp
          have hp3 : (97 : Int) ≤ y.toNat := by omega
          have hp4 : (y.toNat : Int) ≤ 122 := by omega
          have hp' := hide hp; clear hp hp2
          go_wp2_with fail
          go_round
          case rel =>
            refine ⟨k + 1, by omega, by go_num, ?_⟩
            have h1 : s[k]? = some y := by rw [← List.head?_drop, hdy'.out]; rfl
            rw [List.take_add_one, List.all_append, hall'.out, h1]
            simp [hp'.out]
          case measure => simp [intOf]; omega
      · have hks : s.take k = s := List.take_of_length_le (by omega)
        have hall := hall'.out
        rw [hks] at hall
        have hlt' : (s.length : Int) ≤ k := by omega
        clear hks
        by_cases hs0 : s = []
        · have hg : g = 0 := hg0.out hs0
          subst hg
          subst hs0
          go_wp2_with fail
          go_ret
          exact ⟨rfl, hb17⟩
        · obtain ⟨rfl, rfl, h32⟩ := hg3'.out hs0 hall
          have hall2 := hide hall; clear hall
          have h32' : (32 : Int) < s.length := by omega
          have hs1 : ((s.length : Int) == 0) = false := by rw [beq_eq_false_iff_ne]; omega
          go_wp2_with fail
          refine (wakes_any _).mono ?_
          rintro e w8 ⟨rfl, hb8⟩
          go_wp2_with fail
          go_ret
          exact ⟨rfl, hb17.trans (hb8.mono hsz17)⟩

end Go.Proofs.Ytbinmbjcijndhaa
