/- Walks: strconv.FormatUint at base 10, and the program's text of a number (word.Num). FormatUint's walk is the kit's own walk of FormatInt (its shelf) turned to this function. -/
import Derived.Test.YtoadmjnaakbljaaDoorLexD
import Derived.Test.YtoadmjnaakbljaaDoorShelf
import Derived.Lib.AppendIntMem
namespace Go.Proofs.YtoadmjnaakbljaaDoor
open Go Go.RowKit Go.Sort Go.Lib

theorem dec_digF : ∀ f u, 1 ≤ f → u < 10 ^ f → Lib.decDigits u = digF f u
  | 0, _, h, _ => by omega
  | f + 1, u, _, h => by
    rw [Lib.decDigits, digF]
    split
    · rfl
    · have h2 : u / 10 < 10 ^ f := by rw [Nat.pow_succ] at h; omega
      rw [dec_digF f (u / 10) (by
        rcases Nat.eq_zero_or_pos f with h0 | h0
        · subst h0; simp at h; omega
        · exact h0) h2]
theorem dec_mDigits {u : Nat} (h : u < 10 ^ 20) : Lib.decDigits u = mDigits u := dec_digF 20 u (by omega) h

abbrev tab10 (w : World) (B : Nat) : Prop := Lib.TabBelow Tryd.prog B w "internal/strconv.uint64pow10" .u64 Lib.pow10Tab

/-- the table, as whatever grows from this world on keeps it -/
theorem tabNow {B : Nat} {w : World} (h : tab10 w B) (hB : B ≤ w.heap.size) : tab10 w w.heap.size := fun w' hb => h w' (hb.mono hB)

set_option maxHeartbeats 6400000 in
set_option maxRecDepth 100000 in
theorem intFormatUint_any (u : Nat) (hu64 : u < 18446744073709551616) (w : World) (htab : Lib.TabIs Tryd.prog w "internal/strconv.uint64pow10" .u64 Lib.pow10Tab) :
    Calls Tryd.prog 60 #[.int .u64 u, .int .i64 10] w fun e w' => e = .returned (.string ⟨(Lib.decDigits u).toArray⟩) ∧ Below w.heap.size w w' := by
  by_cases hs : u < 100
  · have hs' : (u : Int) < 100 := by omega
    go_enter Tryd.func60, Tryd.ntmps60
    go_wp2_with (go_at_call 63; refine (Tryd.internal_strconv_small u hs _).mono ?_; rintro e w' ⟨rfl, rfl⟩)
    go_ret
    exact ⟨rfl, Below.refl _ _⟩
  · have hu1 : 1 ≤ u := by omega
    have hs' : (100 : Int) ≤ u := by omega
    have hnd20 : Lib.nDigits u ≤ 20 := by have := Lib.numDigits_eq u hu1 hu64; split at this <;> omega
    have hb3 : Lib.nDigits u ≤ 23 := by omega
    have hal : Tryd.prog.arrayLen 80 = 24 := by kernel_rfl
    have hsl1 : ∀ W, (Instr.sliceAt 80 (.pointer (some ⟨w.heap.size, 0, none⟩)) none (some (.int .i64 (Lib.nDigits u : Int))) none).run Tryd.prog W = .ok (.slice (some ⟨w.heap.size, 0, none⟩) (Lib.nDigits u) 24) W := fun W => by
      rw [run_sliceAt_array_h W 80 ⟨w.heap.size, 0, none⟩ (by kernel_rfl) .i64 (Lib.nDigits u : Int) (by omega) (by rw [hal]; omega)]
      go_simp
    have hH0 : Holds (fun (b : UInt8) => Value.int .u8 (b.toNat : Int)) (w.alloc (.cells Lib.zeros24 80)) w.heap.size 0 (Array.replicate (Lib.nDigits u) 0) := Lib.holds_zero0 w _ _ (by omega)
    have hfmt := Tryd.internal_strconv_formatBase10 w.heap.size 0 24 u (Array.replicate (Lib.nDigits u) 0) (w.alloc (.cells Lib.zeros24 80)) hH0 (by rw [Array.size_replicate]; exact Lib.lt_pow_nDigits u) hu64 (by rw [Array.size_replicate]; omega)
    rw [Array.size_replicate] at hfmt
    have HH0 := Lib.hid hH0
    clear hH0 hal
    go_enter Tryd.func60, Tryd.ntmps60
    go_wp2_with (go_at_call 64; refine (Tryd.internal_strconv_numDigits u hu1 hu64 _ (Lib.tabIs_alloc htab _)).mono ?_; rintro e w' ⟨rfl, rfl⟩)
    refine hfmt.mono ?_
    rintro e w' ⟨rfl, k, v', dk, rfl, hF⟩
    have hcv : (convert 25 9 (.slice (some ⟨w.heap.size, 0, none⟩) (Lib.nDigits u) 24)).run Tryd.prog ((putRow (fun (b : UInt8) => Value.int .u8 (b.toNat : Int)) (w.alloc (.cells Lib.zeros24 80)) w.heap.size 0 dk).drewN k) = .ok (.string ⟨(Lib.decDigits u).toArray⟩) ((putRow (fun (b : UInt8) => Value.int .u8 (b.toNat : Int)) (w.alloc (.cells Lib.zeros24 80)) w.heap.size 0 dk).drewN k) := by
      have h := run_convert_bytes_back (P := Tryd.prog) ((putRow (fun (b : UInt8) => Value.int .u8 (b.toNat : Int)) (w.alloc (.cells Lib.zeros24 80)) w.heap.size 0 dk).drewN k) 25 9 5 ⟨w.heap.size, 0, none⟩ 24 (Lib.decDigits u) Tryd.underlying25 Tryd.underlying5 Tryd.underlying9 (fun j hj => by
        rw [Lib.row_is_numeral hF j hj, Lib.add_plain, World.cell?_drewN]
        exact cell?_putRow (fun (b : UInt8) => Value.int .u8 (b.toNat : Int)) _ w.heap.size 0 _ dk HH0.out (by rw [hF.size, Array.size_replicate]) j (by rw [hF.size]; rw [Lib.decDigits_length] at hj; exact hj))
      rw [Lib.decDigits_length] at h
      exact h
    go_wp2_with fail
    go_ret
    refine ⟨rfl, ?_⟩
    rw [alloc_eq_grow]
    obtain ⟨os', _, e⟩ := putRow_grow_new (fun (b : UInt8) => Value.int .u8 (b.toNat : Int)) w #[.cells Lib.zeros24 80] w.heap.size 0 dk (Nat.le_refl _)
    rw [e]
    exact below_grow w.heap.size w (Nat.le_refl _) k os'

theorem formatUint_any (u : Nat) (hu64 : u < 18446744073709551616) (w : World) (htab : Lib.TabIs Tryd.prog w "internal/strconv.uint64pow10" .u64 Lib.pow10Tab) :
    Calls Tryd.prog 53 #[.int .u64 u, .int .i64 10] w fun e w' => e = .returned (.string ⟨(Lib.decDigits u).toArray⟩) ∧ Below w.heap.size w w' := by
  have hc := hide (intFormatUint_any u hu64 w htab)
  go_enter Tryd.func53, Tryd.ntmps53
  go_wp2_with fail
  refine (Calls.mono hc.out ?_)
  rintro e w' ⟨rfl, hb⟩
  go_wp2_with fail
  go_ret
  exact ⟨rfl, hb⟩

theorem wordNum_any (n : Int) (h1 : -9223372036854775808 ≤ n) (h2 : n ≤ 9223372036854775807) (w : World) (htab : Lib.TabIs Tryd.prog w "internal/strconv.uint64pow10" .u64 Lib.pow10Tab) :
    Calls Tryd.prog 39 #[.int .i64 n] w fun e w' => e = .returned (str (mNum n)) ∧ Below w.heap.size w w' := by
  have hp := pow20
  by_cases hn : n < 0
  · have hm : mNum n = 126 :: Lib.decDigits n.natAbs := by rw [mNum, if_pos hn, dec_mDigits (by omega)]
    obtain ⟨u, hu⟩ : ∃ u, u = n.natAbs := ⟨_, rfl⟩
    rw [← hu] at hm
    obtain rfl : n = -(u : Int) := by omega
    have hm' := hide hm; clear hm hu
    have hc := hide (formatUint_any u (by omega) w htab)
    have h3 : (u : Int) ≤ 9223372036854775808 := by omega
    have h4 : (1 : Int) ≤ u := by omega
    have hl : (Lib.decDigits u).length ≤ 20 := by rw [dec_mDigits (by omega)]; exact digF_len 20 u
    have hwr : IntKind.u64.wrap (-IntKind.u64.wrap (-(u : Int))) = (u : Int) := by rw [IntKind.wrap_u64, IntKind.wrap_u64]; omega
    clear htab hp
    go_enter Tryd.func39, Tryd.ntmps39
    go_wp2_with fail
    refine (Calls.mono hc.out ?_)
    rintro e w' ⟨rfl, hb⟩
    go_wp2_with fail
    go_ret
    exact ⟨ret_str hm'.out.symm, hb⟩
  · have hm : mNum n = Lib.decDigits n.natAbs := by rw [mNum, if_neg hn, dec_mDigits (by omega)]
    obtain ⟨u, rfl⟩ : ∃ u : Nat, n = (u : Int) := ⟨n.toNat, by omega⟩
    have hm' := hide hm; clear hm hp
    have hc := hide (Tryd.strconv_FormatInt_10 (u : Int) h1 h2 w htab)
    have h3 : (0 : Int) ≤ u := by omega
    clear htab
    go_enter Tryd.func39, Tryd.ntmps39
    go_wp2_with fail
    refine (Calls.mono hc.out ?_)
    rintro e w' ⟨rfl, k, os, rfl⟩
    go_wp2_with fail
    go_ret
    refine ⟨ret_str ?_, below_grow _ _ (Nat.le_refl _) _ _⟩
    rw [hm'.out, Lib.itoa_nonneg]
    simp

end Go.Proofs.YtoadmjnaakbljaaDoor
