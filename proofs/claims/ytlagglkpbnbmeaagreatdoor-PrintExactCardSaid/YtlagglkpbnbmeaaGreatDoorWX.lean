/- Bundle of Bytes2 Bytes3 LexD WordN WordQ. -/
import Derived.Test.YtlagglkpbnbmeaaGreatDoorLY
import Derived.Lib.AppendStr
import Derived.Test.YtlagglkpbnbmeaaGreatDoorShelf
import Derived.Lib.AppendIntMem

/- Parts of a row of bytes; a row of bytes appended to one of the call's own, nil or not. -/
namespace Go.Proofs.YtlagglkpbnbmeaaGreatDoor
open Go Go.RowKit

theorem rdB_none {w : World} {bs : List UInt8} (h : RdB w none bs) : bs = [] := by
  cases bs with
  | nil => rfl
  | cons x r =>
    obtain ⟨ad, hA, _⟩ := h 0 (by simp)
    cases hA
theorem run_append_of_nilB (base : Nat) (ty : TypeId) (A : Option Addr) (c : Nat) (bs : List UInt8) (w : World) (hown : OwnB w base A c bs) (k : Nat) :
    (Builtin.append_ #[50, 50] ty #[.slice A bs.length c, .slice none 0 k]).run Tryz.prog w = .ok (.slice A bs.length c) w := by
  obtain ⟨i0, hi, hz0, hz1, hz2⟩ := info_parts infoB
  have ht := Tryz.underlying50
  rcases hown.2 with ⟨hv, h0⟩ | ⟨g, cap, cur, hv, _, _, hnc, _⟩
  · rw [hv]
    simp [Builtin.append_, run_underlying ht, sizeOf, typeInfo, hi, Builtin.lenOf, Builtin.firstCells]
  · rw [hv]
    simp [Builtin.append_, run_underlying ht, sizeOf, typeInfo, hi, Builtin.lenOf, Builtin.firstCells, hnc, storeCells]

end Go.Proofs.YtlagglkpbnbmeaaGreatDoor

/- A string's bytes, or a slice's, appended to a row of bytes of the call's own. -/
namespace Go.Proofs.YtlagglkpbnbmeaaGreatDoor
open Go Go.RowKit

theorem wp_appBG {o : Oper} {a : Act} {w : World} {K : Act → World → Prop} {Q : Exit → Act → World → Prop} (s x : Operand)
    (ho : o.op = .call { callee := .builtin .append, args := #[s, x], argTypes := #[50, 50] })
    (base : Nat) (A : Option Addr) (c : Nat) (bs : List UInt8) (hs : a.eval s = .slice A bs.length c) (hown : OwnB w base A c bs)
    (A2 : Option Addr) (m k : Nat) (news : List UInt8) (hx : a.eval x = .slice A2 m k) (hm : news.length = m) (hnews : RdB w A2 news)
    (hbytes : bs.length + m ≤ 140737488355328) (hbase : base ≤ w.heap.size)
    (h : ∀ A' c' w' bs', bs' = bs ++ news → OwnB w' base A' c' bs' → Below base w w' → w.grownBy w' (Value.slice A bs.length c).ownBlock → K (a.put o.dst (.slice A' bs'.length c')) w') : o.wp Tryz.prog a w K Q := by
  cases A2 with
  | some ad =>
    subst hm
    obtain ⟨i0, hi, hz0, hz1, hz2⟩ := info_parts infoB
    refine wp_append_own w s x 50 ho base 5 i0 (.int .u8 0) 1 1 Tryz.underlying50 hi hz0 hz1 hz2 rfl (by decide) _ _ _ hs hown ad news.length k (news.map fun x => Value.int .u8 (x.toNat : Int)) hx (by simp) ?_ ?_ ?_ ?_ hbase ?_
    · intro j u hu
      rw [List.getElem?_map] at hu
      rcases Nat.lt_or_ge j news.length with h1 | h1
      · rw [List.getElem?_eq_getElem h1] at hu
        obtain ⟨ad', hA, hc⟩ := hnews j h1
        cases hA
        rw [hc]
        simpa using hu
      · rw [List.getElem?_eq_none h1] at hu; simp at hu
    · intro u hu
      simp only [List.mem_map] at hu
      obtain ⟨y, _, rfl⟩ := hu
      rfl
    · unfold maxLen; omega
    · omega
    · intro v' w' hown' hg _
      have hB : Below base w w' := (Below.refl _ _).grown hg hbase hown.at
      have e : ∃ A' c', v' = .slice A' (bs ++ news).length c' := by
        rcases hown'.2 with ⟨hv, h0⟩ | ⟨g, cap, cur, hv, _⟩
        · exact ⟨none, 0, by rw [hv, List.length_append, h0]⟩
        · exact ⟨_, cap, by rw [hv, List.length_append]⟩
      obtain ⟨A', c', rfl⟩ := e
      refine h A' c' w' _ rfl ?_ hB hg
      unfold OwnB
      rw [List.map_append, List.length_append]
      rw [List.length_append] at hown'
      exact hown'
  | none =>
    obtain rfl := rdB_none hnews
    simp only [List.length_nil] at hm
    subst hm
    have hrun := run_append_of_nilB base o.type A c bs w hown k
    unfold Oper.wp execOp
    simp only [ho, resolve, invoke, builtin, Sem.run_bind, Sem.run_pure, Result.andThen_ok, List.map_toArray, List.map_cons, List.map_nil, hs, hx, hrun]
    exact h A c w bs (by simp) hown (Below.refl _ _) ⟨rfl, rfl, rfl, Nat.le_refl _, fun _ _ _ => rfl⟩

end Go.Proofs.YtlagglkpbnbmeaaGreatDoor

/- Walks: the reference's text of a number. -/
namespace Go.Proofs.YtlagglkpbnbmeaaGreatDoor
open Go Go.RowKit

set_option maxHeartbeats 1000000
set_option maxRecDepth 100000

def DigInv (u0 u : Nat) (s : List UInt8) : Prop := (s = [] ∧ u = u0) ∨ (s ≠ [] ∧ (0 < u → digF 20 u ++ s = digF 20 u0) ∧ (u = 0 → s = digF 20 u0))
def emp : Value → Nat
  | .string b => if b.size = 0 then 1 else 0
  | _ => 0
theorem emp_le (v : Value) : emp v ≤ 1 := by
  unfold emp
  split
  · split <;> omega
  · omega
theorem digF_cut {u : Nat} (h : 9 < u) (h2 : u < 10 ^ 20) : digF 20 u = digF 20 (u / 10) ++ [UInt8.ofNat (48 + u % 10)] := by
  have e : digF 20 u = if u < 10 then [UInt8.ofNat (48 + u)] else digF 19 (u / 10) ++ [UInt8.ofNat (48 + u % 10)] := rfl
  rw [e, if_neg (by omega), digF_less (f := 19) (g := 20) (by have := pow19; have := pow20; omega) (by omega) (by omega)]
theorem digF_one {u : Nat} (h : u < 10) : digF 20 u = [UInt8.ofNat (48 + u)] := by
  have e : digF 20 u = if u < 10 then [UInt8.ofNat (48 + u)] else digF 19 (u / 10) ++ [UInt8.ofNat (48 + u % 10)] := rfl
  rw [e, if_pos h]
theorem DigInv.more {u0 u : Nat} {s : List UInt8} (h : DigInv u0 u s) (h9 : 9 < u) (h2 : u < 10 ^ 20) : DigInv u0 (u / 10) (UInt8.ofNat (48 + u % 10) :: s) := by
  refine .inr ⟨by simp, fun _ => ?_, fun h0 => by omega⟩
  have e := digF_cut h9 h2
  rcases h with ⟨rfl, rfl⟩ | ⟨_, h1, _⟩
  · exact e.symm
  · rw [← h1 (by omega), e, List.append_assoc]
    rfl
theorem DigInv.zero {u0 : Nat} {s : List UInt8} (h : DigInv u0 0 s) (hs : s = []) : DigInv u0 0 (UInt8.ofNat (48 + 0) :: s) := by
  subst hs
  rcases h with ⟨_, rfl⟩ | ⟨h, _⟩
  · exact .inr ⟨by simp, fun h => by omega, fun _ => rfl⟩
  · exact absurd rfl h
theorem DigInv.last {u0 u : Nat} {s : List UInt8} (h : DigInv u0 u s) (h9 : u ≤ 9) (h0 : 0 < u) : UInt8.ofNat (48 + u) :: s = digF 20 u0 := by
  rcases h with ⟨rfl, rfl⟩ | ⟨_, h1, _⟩
  · rw [digF_one (by omega)]
  · rw [← h1 h0, digF_one (by omega)]
    rfl
theorem DigInv.done {u0 : Nat} {s : List UInt8} (h : DigInv u0 0 s) (hs : s ≠ []) : s = digF 20 u0 := by
  rcases h with ⟨h, _⟩ | ⟨_, _, h⟩
  · exact absurd h hs
  · exact h rfl
theorem DigInv.len {u0 u : Nat} {s : List UInt8} (h : DigInv u0 u s) : s.length ≤ 20 := by
  have h20 := digF_len 20 u0
  rcases h with ⟨rfl, rfl⟩ | ⟨_, h1, h2⟩
  · simp
  · rcases Nat.eq_zero_or_pos u with h0 | h0
    · rw [h2 h0]; exact h20
    · rw [← h1 h0, List.length_append] at h20; omega
theorem dig_slice (d : Nat) (h : d < 10) (w : World) : (Instr.slice 9 (.string ⟨#[48, 49, 50, 51, 52, 53, 54, 55, 56, 57]⟩) (some (.int .u64 (d : Int))) (some (.int .u64 ((d : Int) + 1))) none).run Tryz.prog w = .ok (str [UInt8.ofNat (48 + d)]) w := by
  have hd : d = 0 ∨ d = 1 ∨ d = 2 ∨ d = 3 ∨ d = 4 ∨ d = 5 ∨ d = 6 ∨ d = 7 ∨ d = 8 ∨ d = 9 := by omega
  rcases hd with rfl | rfl | rfl | rfl | rfl | rfl | rfl | rfl | rfl | rfl <;> rfl

theorem refDigits_any (u0 : Nat) (hu0 : u0 < 18446744073709551616) (w : World) :
    Calls Tryz.prog 71 #[.int .u64 u0] w fun e w' => e = .returned (str (mDigits u0)) ∧ w = w' := by
  go_enter Tryz.func71, Tryz.ntmps71
  go_wp2_with fail
  go_loop [0, 3] (fun u s => ∃ (k : Nat) (l : List UInt8), k < 18446744073709551616 ∧ u = .int .u64 k ∧ s = str l ∧ DigInv u0 k l) (fun u s => 2 * (intOf u).toNat + emp s)
  case atStart => exact ⟨u0, [], hu0, rfl, rfl, .inl ⟨rfl, rfl⟩⟩
  case round =>
    obtain ⟨k, l, hk, rfl, rfl, hinv⟩ := hrel
    have hll := hinv.len
    have hinv' := hide hinv; clear hinv
    obtain ⟨d, hd⟩ : ∃ d, d = k % 10 := ⟨_, rfl⟩
    have hd10 : d < 10 := by omega
    have hkd : (k : Int) % 10 = d := by omega
    have hd' := hide hd; clear hd
    have hds := dig_slice d hd10
    have hd1 : (d : Int) ≤ 9 := by omega
    by_cases h9 : 9 < k
    · have h9' : (9 : Int) < k := by omega
      go_wp2_with fail
      go_round
      case rel =>
        have hm := hinv'.out.more h9 (by have := pow20; omega)
        rw [← hd'.out] at hm
        exact ⟨k / 10, _, by omega, by go_num, by simp, hm⟩
      case measure =>
        refine Nat.lt_of_le_of_lt (Nat.add_le_add_left (emp_le _) _) ?_
        simp [intOf]; omega
    · by_cases h0 : k = 0
      · subst h0
        by_cases hl : l = []
        · have hm := hinv'.out.zero hl
          have hm' := hide hm; clear hm
          subst hl
          obtain rfl : d = 0 := by omega
          have hds0 := dig_slice 0 (by omega)
          rw [show (((0 : Nat) : Int) + 1) = 1 from rfl, show ((0 : Nat) : Int) = 0 from rfl] at hds0
          clear hds hkd
          go_wp2_with fail
          go_round
          case rel => exact ⟨0, _, by omega, rfl, rfl, hm'.out⟩
          case measure => decide
        · have hm := hinv'.out.done hl
          have hm' := hide hm; clear hm
          have hne : l.isEmpty = false := by cases l with | nil => exact absurd rfl hl | cons => rfl
          clear hl hkd
          go_wp2_with fail
          go_ret
          exact ⟨ret_str hm'.out, rfl⟩
      · have hm := hinv'.out.last (by omega) (by omega)
        have hm' := hide hm; clear hm
        obtain rfl : d = k := by omega
        have h1 : (0 : Int) < d := by omega
        have h2 : ((d : Int) == 0) = false := by rw [beq_eq_false_iff_ne]; omega
        clear hkd h0 h9
        go_wp2_with fail
        all_goals
          go_ret
          refine ⟨ret_str ?_, rfl⟩
          have h3 := hm'.out
          simp only [UInt8.ofNat_add] at h3
          first | exact h3 | (simp_all [mDigits]; done)

theorem refNum_any (n : Int) (h1 : -9223372036854775808 ≤ n) (h2 : n ≤ 9223372036854775807) (w : World) :
    Calls Tryz.prog 37 #[.int .i64 n] w fun e w' => e = .returned (str (mNum n)) ∧ w = w' := by
  by_cases hn : n < 0
  · have hm : mNum n = 126 :: mDigits n.natAbs := by rw [mNum, if_pos hn]
    have hm' := hide hm; clear hm
    obtain ⟨u, hu⟩ : ∃ u, u = n.natAbs := ⟨_, rfl⟩
    have hl := mDigits_len (u := u) (by rw [pow19]; omega)
    obtain ⟨m, rfl⟩ : ∃ m : Nat, n = -1 - (m : Int) := ⟨(-1 - n).toNat, by omega⟩
    obtain rfl : u = m + 1 := by omega
    have hd := refDigits_any (m + 1) (by omega) w
    rw [Int.natCast_add] at hd
    have hd' := hide hd; have hu' := hide hu; clear hd hu
    have h3 : (m : Int) ≤ 9223372036854775807 := by omega
    go_enter Tryz.func37, Tryz.ntmps37
    go_wp2_with fail
    rw [show (-(-1 - (m : Int) + 1) + 1) = (m : Int) + 1 by omega]
    refine (Calls.mono hd'.out ?_)
    rintro e w' ⟨rfl, rfl⟩
    go_wp2_with fail
    go_ret
    exact ⟨ret_str (by rw [hm'.out, ← hu'.out]), rfl⟩
  · have hm : mNum n = mDigits n.natAbs := by rw [mNum, if_neg hn]
    have hm' := hide hm; clear hm
    obtain ⟨m, rfl⟩ : ∃ m : Nat, n = (m : Int) := ⟨n.toNat, by omega⟩
    have hd := refDigits_any m (by omega) w
    have hd' := hide hd; clear hd
    have h3 : (0 : Int) ≤ m := by omega
    go_enter Tryz.func37, Tryz.ntmps37
    go_wp2_with (go_at_call 71; refine (Calls.mono hd'.out ?_); rintro e w' ⟨rfl, rfl⟩)
    go_ret
    exact ⟨ret_str (by rw [hm'.out]; simp), rfl⟩

end Go.Proofs.YtlagglkpbnbmeaaGreatDoor

/- Walks: strconv.FormatUint at base 10, and the program's text of a number (word.Num). FormatUint's walk is the kit's own walk of FormatInt (its shelf) turned to this function. -/
namespace Go.Proofs.YtlagglkpbnbmeaaGreatDoor
open Go Go.RowKit Go.Sort Go.Lib

theorem dec_digF : ∀ f u, 1 ≤ f → u < 10 ^ f → Lib.decDigits u = digF f u
  | 0, _, h, _ => by omega
  | f + 1, u, _, h => by
    rw [Lib.decDigits, digF]
    split
    · rfl
    · have h2 : u / 10 < 10 ^ f := by rw [Nat.pow_succ] at h; omega
      rw [dec_digF f (u / 10) (by
        rcases Nat.eq_zero_or_pos f with h0 | h0
        · subst h0; simp at h; omega
        · exact h0) h2]
theorem dec_mDigits {u : Nat} (h : u < 10 ^ 20) : Lib.decDigits u = mDigits u := dec_digF 20 u (by omega) h

abbrev tab10 (w : World) (B : Nat) : Prop := Lib.TabBelow Tryz.prog B w "internal/strconv.uint64pow10" .u64 Lib.pow10Tab

set_option maxHeartbeats 6400000 in
set_option maxRecDepth 100000 in
theorem intFormatUint_any (u : Nat) (hu64 : u < 18446744073709551616) (w : World) (htab : Lib.TabIs Tryz.prog w "internal/strconv.uint64pow10" .u64 Lib.pow10Tab) :
    Calls Tryz.prog 130 #[.int .u64 u, .int .i64 10] w fun e w' => e = .returned (.string ⟨(Lib.decDigits u).toArray⟩) ∧ Below w.heap.size w w' := by
  by_cases hs : u < 100
  · have hs' : (u : Int) < 100 := by omega
    go_enter Tryz.func130, Tryz.ntmps130
    go_wp2_with (go_at_call 143; refine (Tryz.internal_strconv_small u hs _).mono ?_; rintro e w' ⟨rfl, rfl⟩)
    go_ret
    exact ⟨rfl, Below.refl _ _⟩
  · have hu1 : 1 ≤ u := by omega
    have hs' : (100 : Int) ≤ u := by omega
    have hnd20 : Lib.nDigits u ≤ 20 := by have := Lib.numDigits_eq u hu1 hu64; split at this <;> omega
    have hb3 : Lib.nDigits u ≤ 23 := by omega
    have hal : Tryz.prog.arrayLen 141 = 24 := by kernel_rfl
    have hsl1 : ∀ W, (Instr.sliceAt 141 (.pointer (some ⟨w.heap.size, 0, none⟩)) none (some (.int .i64 (Lib.nDigits u : Int))) none).run Tryz.prog W = .ok (.slice (some ⟨w.heap.size, 0, none⟩) (Lib.nDigits u) 24) W := fun W => by
      rw [run_sliceAt_array_h W 141 ⟨w.heap.size, 0, none⟩ (by kernel_rfl) .i64 (Lib.nDigits u : Int) (by omega) (by rw [hal]; omega)]
      go_simp
    have hH0 : Holds (fun (b : UInt8) => Value.int .u8 (b.toNat : Int)) (w.alloc (.cells Lib.zeros24 141)) w.heap.size 0 (Array.replicate (Lib.nDigits u) 0) := Lib.holds_zero0 w _ _ (by omega)
    have hfmt := Tryz.internal_strconv_formatBase10 w.heap.size 0 24 u (Array.replicate (Lib.nDigits u) 0) (w.alloc (.cells Lib.zeros24 141)) hH0 (by rw [Array.size_replicate]; exact Lib.lt_pow_nDigits u) hu64 (by rw [Array.size_replicate]; omega)
    rw [Array.size_replicate] at hfmt
    have HH0 := Lib.hid hH0
    clear hH0 hal
    go_enter Tryz.func130, Tryz.ntmps130
    go_wp2_with (go_at_call 144; refine (Tryz.internal_strconv_numDigits u hu1 hu64 _ (Lib.tabIs_alloc htab _)).mono ?_; rintro e w' ⟨rfl, rfl⟩)
    refine hfmt.mono ?_
    rintro e w' ⟨rfl, k, v', dk, rfl, hF⟩
    have hcv : (convert 50 9 (.slice (some ⟨w.heap.size, 0, none⟩) (Lib.nDigits u) 24)).run Tryz.prog ((putRow (fun (b : UInt8) => Value.int .u8 (b.toNat : Int)) (w.alloc (.cells Lib.zeros24 141)) w.heap.size 0 dk).drewN k) = .ok (.string ⟨(Lib.decDigits u).toArray⟩) ((putRow (fun (b : UInt8) => Value.int .u8 (b.toNat : Int)) (w.alloc (.cells Lib.zeros24 141)) w.heap.size 0 dk).drewN k) := by
      have h := run_convert_bytes_back (P := Tryz.prog) ((putRow (fun (b : UInt8) => Value.int .u8 (b.toNat : Int)) (w.alloc (.cells Lib.zeros24 141)) w.heap.size 0 dk).drewN k) 50 9 5 ⟨w.heap.size, 0, none⟩ 24 (Lib.decDigits u) Tryz.underlying50 Tryz.underlying5 Tryz.underlying9 (fun j hj => by
        rw [Lib.row_is_numeral hF j hj, Lib.add_plain, World.cell?_drewN]
        exact cell?_putRow (fun (b : UInt8) => Value.int .u8 (b.toNat : Int)) _ w.heap.size 0 _ dk HH0.out (by rw [hF.size, Array.size_replicate]) j (by rw [hF.size]; rw [Lib.decDigits_length] at hj; exact hj))
      rw [Lib.decDigits_length] at h
      exact h
    go_wp2_with fail
    go_ret
    refine ⟨rfl, ?_⟩
    rw [alloc_eq_grow]
    obtain ⟨os', _, e⟩ := putRow_grow_new (fun (b : UInt8) => Value.int .u8 (b.toNat : Int)) w #[.cells Lib.zeros24 141] w.heap.size 0 dk (Nat.le_refl _)
    rw [e]
    exact below_grow w.heap.size w (Nat.le_refl _) k os'

theorem formatUint_any (u : Nat) (hu64 : u < 18446744073709551616) (w : World) (htab : Lib.TabIs Tryz.prog w "internal/strconv.uint64pow10" .u64 Lib.pow10Tab) :
    Calls Tryz.prog 100 #[.int .u64 u, .int .i64 10] w fun e w' => e = .returned (.string ⟨(Lib.decDigits u).toArray⟩) ∧ Below w.heap.size w w' := by
  have hc := hide (intFormatUint_any u hu64 w htab)
  go_enter Tryz.func100, Tryz.ntmps100
  go_wp2_with fail
  refine (Calls.mono hc.out ?_)
  rintro e w' ⟨rfl, hb⟩
  go_wp2_with fail
  go_ret
  exact ⟨rfl, hb⟩

theorem wordNum_any (n : Int) (h1 : -9223372036854775808 ≤ n) (h2 : n ≤ 9223372036854775807) (w : World) (htab : Lib.TabIs Tryz.prog w "internal/strconv.uint64pow10" .u64 Lib.pow10Tab) :
    Calls Tryz.prog 56 #[.int .i64 n] w fun e w' => e = .returned (str (mNum n)) ∧ Below w.heap.size w w' := by
  have hp := pow20
  by_cases hn : n < 0
  · have hm : mNum n = 126 :: Lib.decDigits n.natAbs := by rw [mNum, if_pos hn, dec_mDigits (by omega)]
    obtain ⟨u, hu⟩ : ∃ u, u = n.natAbs := ⟨_, rfl⟩
    rw [← hu] at hm
    obtain rfl : n = -(u : Int) := by omega
    have hm' := hide hm; clear hm hu
    have hc := hide (formatUint_any u (by omega) w htab)
    have h3 : (u : Int) ≤ 9223372036854775808 := by omega
    have h4 : (1 : Int) ≤ u := by omega
    have hl : (Lib.decDigits u).length ≤ 20 := by rw [dec_mDigits (by omega)]; exact digF_len 20 u
    have hwr : IntKind.u64.wrap (-IntKind.u64.wrap (-(u : Int))) = (u : Int) := by rw [IntKind.wrap_u64, IntKind.wrap_u64]; omega
    clear htab hp
    go_enter Tryz.func56, Tryz.ntmps56
    go_wp2_with fail
    refine (Calls.mono hc.out ?_)
    rintro e w' ⟨rfl, hb⟩
    go_wp2_with fail
    go_ret
    exact ⟨ret_str hm'.out.symm, hb⟩
  · have hm : mNum n = Lib.decDigits n.natAbs := by rw [mNum, if_neg hn, dec_mDigits (by omega)]
    obtain ⟨u, rfl⟩ : ∃ u : Nat, n = (u : Int) := ⟨n.toNat, by omega⟩
    have hm' := hide hm; clear hm hp
    have hc := hide (Tryz.strconv_FormatInt_10 (u : Int) h1 h2 w htab)
    have h3 : (0 : Int) ≤ u := by omega
    clear htab
    go_enter Tryz.func56, Tryz.ntmps56
    go_wp2_with fail
    refine (Calls.mono hc.out ?_)
    rintro e w' ⟨rfl, k, os, rfl⟩
    go_wp2_with fail
    go_ret
    refine ⟨ret_str ?_, below_grow _ _ (Nat.le_refl _) _ _⟩
    rw [hm'.out, Lib.itoa_nonneg]
    simp

end Go.Proofs.YtlagglkpbnbmeaaGreatDoor

/- Walks: the program's text of a text (word.Quote); the wakes of the statements on words. -/
namespace Go.Proofs.YtlagglkpbnbmeaaGreatDoor
open Go Go.RowKit

set_option maxHeartbeats 2000000
set_option maxRecDepth 100000

theorem laterX_alloc (x : Option Nat) (W : World) (o : Obj) : LaterX x W (W.alloc o) := ⟨by simp, fun p hp _ => World.cell?_alloc_lt W o p hp⟩
theorem rdB_mark0 (w : World) (bs : List UInt8) (t : TypeId) (cs : Array Value) (h : cs = (bs.map fun x => Value.int .u8 (x.toNat : Int)).toArray) : RdB (w.alloc (.cells cs t)) (some ⟨w.heap.size, 0, none⟩) bs := by
  subst h
  exact fun j hj => ⟨_, rfl, newsB w bs t j hj⟩

theorem hexD_nat : ∀ n, n < 16 → ((hexD n).toNat : Int) = if n < 10 then (48 : Int) + n else 87 + n := by decide
theorem wordHex_any (n : Nat) (h : n < 16) (w : World) : Calls Tryz.prog 132 #[.int .u8 n] w fun e w' => e = .returned (.int .u8 ((hexD n).toNat : Int)) ∧ w = w' := by
  have hh := hide (hexD_nat n h)
  by_cases h10 : n < 10
  · have h1 : (n : Int) < 10 := by omega
    go_enter Tryz.func132, Tryz.ntmps132
    go_wp2_with fail
    go_ret
    refine ⟨ret_int ?_, rfl⟩
    rw [hh.out, if_pos h10]
  · have h1 : ¬ (n : Int) < 10 := by omega
    have h2 : (n : Int) < 16 := by omega
    go_enter Tryz.func132, Tryz.ntmps132
    go_wp2_with fail
    go_ret
    refine ⟨ret_int ?_, rfl⟩
    rw [hh.out, if_neg h10]
    omega

theorem wordQuote_any (l : List UInt8) (w : World) (hmax : l.length ≤ 9223372036854775807) :
    Calls Tryz.prog 101 #[str l] w fun e w' => e = .returned (.tuple #[str (quoV l), .int .i64 (quoE l)]) ∧ Below w.heap.size w w' := by
  by_cases hbig : 200 < l.length
  · have h1 : quoV l = [] := by simp [quoV, mQuote, show ¬ l.length ≤ 200 by omega]
    have h2 : quoE l = 2 := by simp [quoE, mQuote, show ¬ l.length ≤ 200 by omega]
    have h1' := hide h1; have h2' := hide h2; clear h1 h2
    have hbig' : (200 : Int) < l.length := by omega
    go_enter Tryz.func101, Tryz.ntmps101
    go_wp2_with fail
    go_ret2
    rw [h1'.out, h2'.out]
    exact ⟨rfl, Below.refl _ _⟩
  have h1 : quoV l = mLong l := by simp [quoV, mQuote, show l.length ≤ 200 by omega]
  have h2 : quoE l = 0 := by simp [quoE, mQuote, show l.length ≤ 200 by omega]
  have h1' := hide h1; have h2' := hide h2; clear h1 h2
  have hbig' : (l.length : Int) ≤ 200 := by omega
  go_enter Tryz.func101, Tryz.ntmps101
  go_wp2_with fail
  go_loopw [4, 5] (fun v i wr => ∃ (k : Nat) (A : Option Addr) (c : Nat), k ≤ l.length ∧ i = .int .i64 k ∧ v = .slice A (34 :: (l.take k).flatMap esc).length c ∧ OwnB wr w.heap.size A c (34 :: (l.take k).flatMap esc) ∧ Below w.heap.size w wr) (fun _ i _ => l.length - (intOf i).toNat)
  case atStart => exact ⟨0, _, _, by omega, rfl, rfl, OwnB.made w [34] (by decide), (Below.refl _ _).alloc (Nat.le_refl _) _⟩
  case round =>
    obtain ⟨k, A, c, hk, rfl, rfl, hown, hbl⟩ := hrel
    generalize hbs : (34 :: (l.take k).flatMap esc : List UInt8) = bs at hown ⊢
    have hbs' := hide hbs; clear hbs
    have hsz := hbl.size
    have hlen : bs.length ≤ 1000 := by
      rw [← hbs'.out]
      have := escs_len (l.take k)
      simp only [List.length_take, List.length_cons] at *
      omega
    by_cases hlt : k < l.length
    · obtain ⟨y, hy, hdy⟩ := str_at l hlt
      have htk : 34 :: (l.take (k + 1)).flatMap esc = bs ++ esc y := by
        rw [← hbs'.out, ← List.take_append_getElem hlt, hy]
        simp
      have htk' := hide htk; clear htk hdy
      have hyl := y.toNat_lt
      cases hp : isPlain y
      · have hp' := hide hp; clear hp
        obtain ⟨p, hpp⟩ : ∃ p, p = y.toNat / 16 := ⟨_, rfl⟩
        obtain ⟨q, hqq⟩ : ∃ q, q = y.toNat % 16 := ⟨_, rfl⟩
        have hp16 : p < 16 := by omega
        have hq16 : q < 16 := by omega
        have e1 : (y.toNat : Int) / 16 = (p : Int) := by omega
        have e2 : bits BinOp.and IntKind.u8 (y.toNat : Int) 15 = (q : Int) := by rw [bits_and15, hqq]
        have hesc : esc y = [92, hexD p, hexD q] := by
          rw [esc, hp'.out, hpp, hqq]
          rfl
        have hesc' := hide hesc; clear hesc
        have hpq' := hide (And.intro hpp hqq); clear hpp hqq
        go_wp2_with (go_at_call 131; with_reducible refine (wordPlain_any y _).mono ?_; rintro e w' ⟨rfl, rfl⟩; rw [hp'.out])
        refine drawn_startX (Value.slice A bs.length c).ownBlock (by kernel_rfl) ?_
        refine take_atX (v := ?_) 0 rfl (by kernel_rfl) (by kernel_rfl) (by kernel_rfl) rfl (fun w' hw' => ?_) ?_; rotate_left; · (go_simp <;> with_reducible rfl)
        simp only [Act.put, List.setIfInBounds_toArray, List.set_cons_zero, List.set_cons_succ]
        refine take_atX (v := ?_) 1 rfl (by kernel_rfl) (by kernel_rfl) (by kernel_rfl) rfl (fun w' hw' => ?_) ?_; rotate_left; · (go_simp <;> with_reducible rfl)
        simp only [Act.put, List.setIfInBounds_toArray, List.set_cons_zero, List.set_cons_succ]
        refine take_atX (v := ?_) 2 rfl (by kernel_rfl) (by kernel_rfl) (by kernel_rfl) rfl (fun w' hw' => ?_) ?_; rotate_left; · (go_simp <;> with_reducible rfl)
        simp only [Act.put, List.setIfInBounds_toArray, List.set_cons_zero, List.set_cons_succ]
        refine take_atX (v := ?_) 3 rfl (by kernel_rfl) (by kernel_rfl) (by kernel_rfl) rfl (fun w' hw' => ?_) ?_; rotate_left; · (go_simp <;> with_reducible rfl)
        simp only [Act.put, List.setIfInBounds_toArray, List.set_cons_zero, List.set_cons_succ]
        refine take_atX (v := ?_) 4 rfl (by kernel_rfl) (by kernel_rfl) (by kernel_rfl) rfl (fun w' hw' => ?_) ?_; rotate_left; · (go_simp <;> with_reducible rfl)
        simp only [Act.put, List.setIfInBounds_toArray, List.set_cons_zero, List.set_cons_succ]
        refine take_atX (v := ?_) 6 rfl (by kernel_rfl) (by kernel_rfl) (by kernel_rfl) rfl (fun w' hw' => ?_) ?_; rotate_left; · (go_simp <;> with_reducible rfl)
        simp only [Act.put, List.setIfInBounds_toArray, List.set_cons_zero, List.set_cons_succ]
        refine take_atX (v := ?_) 7 rfl (by kernel_rfl) (by kernel_rfl) (by kernel_rfl) rfl (fun w' hw' => ?_) ?_; rotate_left; · (go_simp <;> with_reducible rfl)
        simp only [Act.put, List.setIfInBounds_toArray, List.set_cons_zero, List.set_cons_succ]
        refine take_atX (v := ?_) 8 rfl (by kernel_rfl) (by kernel_rfl) (by kernel_rfl) rfl (fun w' hw' => ?_) ?_; rotate_left; · (go_simp <;> with_reducible rfl)
        simp only [Act.put, List.setIfInBounds_toArray, List.set_cons_zero, List.set_cons_succ]
        refine take_atX (v := ?_) 9 rfl (by kernel_rfl) (by kernel_rfl) (by kernel_rfl) rfl (fun w' hw' => ?_) ?_; rotate_left; · (go_simp <;> with_reducible rfl)
        simp only [Act.put, List.setIfInBounds_toArray, List.set_cons_zero, List.set_cons_succ]
        refine sole_atX 5 (by kernel_rfl) rfl rfl (fun K hK => ?_)
        go_simp
        refine (wordHex_any p hp16 _).mono ?_
        rintro e w' ⟨rfl, rfl⟩
        go_wp2_with fail
        refine hK.out _ _ (LaterX.refl _ _) ?_
        clear hK K
        refine sole_atX 10 (by kernel_rfl) rfl rfl (fun K hK => ?_)
        go_simp
        refine (wordHex_any q hq16 _).mono ?_
        rintro e w' ⟨rfl, rfl⟩
        go_wp2_with fail
        refine hK.out _ _ (LaterX.refl _ _) ?_
        clear hK K
        refine sole_atX 11 (by kernel_rfl) rfl rfl (fun K hK => ?_)
        go_simp
        refine hK.out _ _ (laterX_alloc _ _ _) ?_
        clear hK K
        try simp only [Act.put, List.setIfInBounds_toArray, List.set_cons_zero, List.set_cons_succ]
        refine sole_atX 12 (by kernel_rfl) rfl rfl (fun K hK => ?_)
        refine wp_appBG (.tmp 26) (.tmp 37) rfl w.heap.size A c bs rfl (hown.drew.alloc _) (some ⟨wr.heap.size, 0, none⟩) 3 3 [92, hexD p, hexD q] rfl rfl (rdB_mark0 wr.drew [92, hexD p, hexD q] _ _ rfl) (by omega) (by show w.heap.size ≤ (wr.drew.alloc _).heap.size; simp; omega) ?_
        intro A' c' w1 bs1 hb1 hown1 hB1 hg1; have hb1' := hide hb1; clear hb1
        refine hK.out _ _ (laterX_grown hg1) ?_
        clear hK K
        try simp only [Act.put, List.setIfInBounds_toArray, List.set_cons_zero, List.set_cons_succ]
        refine take_atX (v := ?_) 13 rfl (by kernel_rfl) (by kernel_rfl) (by kernel_rfl) rfl (fun w' hw' => ?_) ?_; rotate_left; · (go_simp <;> with_reducible rfl)
        simp only [Act.put, List.setIfInBounds_toArray, List.set_cons_zero, List.set_cons_succ]
        refine drawn_doneX (by kernel_rfl) ?_
        go_wp2_with fail
        go_roundw
        case rel =>
          refine ⟨k + 1, A', c', by omega, by go_num, ?_, ?_, ?_⟩
          · rw [htk'.out, hesc'.out, ← hb1'.out]
          · rw [htk'.out, hesc'.out, ← hb1'.out]; exact hown1
          · exact hbl.trans ((((Below.refl _ _).drew).alloc hsz _).trans (hB1.mono (Nat.le_refl _)))
        case measure => simp [intOf]; omega
      · have hp' := hide hp; clear hp
        go_wp2_with (first | (go_at_call 131; with_reducible refine (wordPlain_any y _).mono ?_; rintro e w' ⟨rfl, rfl⟩; rw [hp'.out]) | (at_builtin; refine wpList_appB rfl (.tmp 20) (.tmp 24) rfl w.heap.size A c bs rfl (hown.alloc _) _ 1 1 [y] rfl rfl (newsB _ [y] _) (by omega) (by simp; omega) ?_; intro A' c' w1 bs1 hb1 hown1 hB1; have hb1' := hide hb1; clear hb1))
        have hesc : esc y = [y] := by rw [esc, hp'.out]; rfl
        go_roundw
        case rel =>
          refine ⟨k + 1, A', c', by omega, by go_num, ?_, ?_, ?_⟩
          · rw [htk'.out, hesc, ← hb1'.out]
          · rw [htk'.out, hesc, ← hb1'.out]; exact hown1
          · exact hbl.trans (((Below.refl _ _).alloc hsz _).trans (hB1.mono (Nat.le_refl _)))
        case measure => simp [intOf]; omega
    · go_wp2_with (at_builtin; refine wpList_appB rfl (.tmp 39) (.tmp 40) rfl w.heap.size A c bs rfl (hown.alloc _) _ 1 1 [34] rfl rfl (newsB _ [34] _) (by omega) (by simp; omega) ?_; intro A' c' w1 bs1 hb1 hown1 hB1; have hb1' := hide hb1; clear hb1; have hcv := run_conv (P := Tryz.prog) (c := c') hown1.rd rfl Tryz.underlying50 Tryz.underlying5 Tryz.underlying9)
      go_ret2
      rw [h1'.out, h2'.out]
      have hfin : bs1 = mLong l := by
        rw [hb1'.out, ← hbs'.out, List.take_of_length_le (by omega)]
        rfl
      rw [hfin]
      exact ⟨rfl, hbl.trans (((Below.refl _ _).alloc hsz _).trans (hB1.mono (Nat.le_refl _)))⟩

end Go.Proofs.YtlagglkpbnbmeaaGreatDoor

