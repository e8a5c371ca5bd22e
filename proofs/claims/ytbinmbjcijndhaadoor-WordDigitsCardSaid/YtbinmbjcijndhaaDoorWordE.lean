/- The law WordExact: the program's words and the reference's give the same answers. -/
import Derived.Test.YtbinmbjcijndhaaDoorWordQ
namespace Go.Proofs.YtbinmbjcijndhaaDoor
open Go Go.RowKit

set_option maxHeartbeats 2000000
set_option maxRecDepth 100000

theorem str_bytes (a : ByteArray) : ∃ s : List UInt8, a = ⟨s.toArray⟩ := ⟨a.data.toList, by simp⟩
theorem wf_i64 {n : Int} (h : (Lit.int .i64 n).wf = true) : -9223372036854775808 ≤ n ∧ n ≤ 9223372036854775807 := by
  simp only [Lit.wf, Bool.and_eq_true, decide_eq_true_eq] at h
  exact h

theorem wordExact_any (a0 : ByteArray) (n : Int) (w : World) (w0 : a0.size ≤ maxLen) (w1 : (Lit.int .i64 n).wf = true) (htab : tab10 w w.heap.size) :
    Calls Tryd.prog 6 #[.string a0, .int .i64 n] w fun e w' => e = .returned (.bool true) ∧ Below w.heap.size w w' := by
  obtain ⟨s, rfl⟩ := str_bytes a0
  have hsl : s.length ≤ 9223372036854775807 := by simpa [ByteArray.size, maxLen] using w0
  obtain ⟨hn1, hn2⟩ := wf_i64 w1
  clear w0 w1
  by_cases hbig : 500 < s.length
  · have hbig' : (500 : Int) < s.length := by omega
    clear htab
    go_enter Tryd.func6, Tryd.ntmps6
    go_wp2_with fail
    go_ret
    exact ⟨rfl, Below.refl _ _⟩
  have hbig' : (s.length : Int) ≤ 500 := by omega
  have htab' := hide htab; clear htab
  go_enter Tryd.func6, Tryd.ntmps6
  go_wp2_with fail
  refine (wordParseNum_any s _ (by omega)).mono ?_
  rintro e w' ⟨rfl, rfl⟩
  go_wp2_with fail
  refine (refParseNum_any s _ (by omega)).mono ?_
  rintro e w' ⟨rfl, rfl⟩
  go_wp2_with fail
  refine (wordQuote_any s _ (by omega)).mono ?_
  rintro e w1 ⟨rfl, hb1⟩
  have hsz1 := hb1.size
  go_wp2_with fail
  refine (refQuote_any s _ (by omega)).mono ?_
  rintro e w2 ⟨rfl, hb2⟩
  have hsz2 := hb2.size
  go_wp2_with fail
  refine (wordUnquote_any s _ (by omega)).mono ?_
  rintro e w3 ⟨rfl, hb3⟩
  have hsz3 := hb3.size
  go_wp2_with fail
  refine (refUnquote_any s _ (by omega)).mono ?_
  rintro e w4 ⟨rfl, hb4⟩
  have hsz4 := hb4.size
  have hb14 : Below w.heap.size w w4 := ((hb1.trans (hb2.mono hsz1)).trans (hb3.mono (by omega))).trans (hb4.mono (by omega))
  have ht4 := hide (htab'.out.on hb14)
  go_wp2_with fail
  refine (wordKey_any s _).mono ?_
  rintro e w' ⟨rfl, rfl⟩
  go_wp2_with fail
  refine (refKey_any s _ (by omega)).mono ?_
  rintro e w' ⟨rfl, rfl⟩
  go_wp2_with fail
  refine (wordName_any s _ (by omega)).mono ?_
  rintro e w' ⟨rfl, rfl⟩
  go_wp2_with fail
  refine (refName_any s _ (by omega)).mono ?_
  rintro e w' ⟨rfl, rfl⟩
  go_wp2_with fail
  refine (wordNum_any n hn1 hn2 _ ht4.out.here).mono ?_
  rintro e w5 ⟨rfl, hb5⟩
  have hsz5 := hb5.size
  have hb15 : Below w.heap.size w w5 := hb14.trans (hb5.mono (by omega))
  have ht5 := hide (tabNow (htab'.out.on hb15) hb15.size)
  go_wp2_with fail
  refine (refNum_any n hn1 hn2 _).mono ?_
  rintro e w' ⟨rfl, rfl⟩
  go_wp2_with fail
  refine (wakesW_any _ ht5.out).mono ?_
  rintro e w6 ⟨rfl, hb6⟩
  go_wp2_with fail
  go_ret
  exact ⟨rfl, hb15.trans (hb6.mono hb15.size)⟩

end Go.Proofs.YtbinmbjcijndhaaDoor
