/- Walks: texts read, of the program and of the reference. -/
import Derived.Test.YtoadmjnaakbljaaDoorLexW4
import Derived.Test.YtoadmjnaakbljaaDoorLexP
namespace Go.Proofs.YtoadmjnaakbljaaDoor
open Go Go.RowKit

set_option maxHeartbeats 1000000
set_option maxRecDepth 100000

def unqV (s : List UInt8) : List UInt8 := (mUnquote s).getD []
def unqE (s : List UInt8) : Int := if (mUnquote s).isSome then 0 else 3
theorem unqVE_some {s v : List UInt8} (h : mUnquote s = some v) : unqV s = v ∧ unqE s = 0 := by simp [unqV, unqE, h]
theorem unqVE_none {s : List UInt8} (h : mUnquote s = none) : unqV s = [] ∧ unqE s = 3 := by simp [unqV, unqE, h]
theorem mUnq_plain {y : UInt8} {r : List UInt8} (h : isPlain y = true) : mUnq (y :: r) = (mUnq r).map (y :: ·) := by rw [mUnq.eq_def]; simp only [h, if_true]
theorem mUnq_bad {y : UInt8} {r : List UInt8} (h : isPlain y = false) (h2 : y.toNat ≠ 92) : mUnq (y :: r) = none := by
  rw [mUnq.eq_def]; simp only [h, Bool.false_eq_true, if_false, h2]
theorem mUnq_short {y : UInt8} {r : List UInt8} (h : isPlain y = false) (h2 : r.length < 2) : mUnq (y :: r) = none := by
  rw [mUnq.eq_def]
  simp only [h, Bool.false_eq_true, if_false]
  split
  · match r, h2 with
    | [], _ => rfl
    | [_], _ => rfl
  · rfl
theorem mUnq_esc {y h l : UInt8} {r : List UInt8} (hp : isPlain y = false) (h2 : y.toNat = 92) : mUnq (y :: h :: l :: r) =
    match hexV h, hexV l with
    | some a, some b => if isPlain (UInt8.ofNat (16 * a + b)) then none else (mUnq r).map (UInt8.ofNat (16 * a + b) :: ·)
    | _, _ => none := by
  rw [mUnq.eq_def]
  simp only [hp, Bool.false_eq_true, if_false, h2, if_true]
  rfl
theorem bits_or_hex (x z : Nat) (hx : x < 16) (hz : z < 16) : bits BinOp.or IntKind.u8 ((x : Int) * 16) (z : Int) = ((UInt8.ofNat (16 * x + z)).toNat : Int) := by
  have h : ∀ a b : Fin 16, bits BinOp.or IntKind.u8 ((a.val : Int) * 16) (b.val : Int) = ((UInt8.ofNat (16 * a.val + b.val)).toNat : Int) := by decide +kernel
  exact h ⟨x, hx⟩ ⟨z, hz⟩
theorem hexV_lt {c : UInt8} {a : Nat} (h : hexV c = some a) : a < 16 := by
  rcases hexV_cases c with ⟨_, _, e⟩ | ⟨_, _, e⟩ | ⟨_, _, e⟩ <;> rw [e] at h <;> first | (injection h with h; omega) | cases h

theorem wordUnquote_body (l t : List UInt8) (w : World) (hmax : l.length ≤ 40000000000000) (h2 : 2 ≤ l.length) (hx : l[0]'(by omega) = 34) (hz : l[l.length - 1]'(by omega) = 34)
    (ht : l.tail.take (l.length - 1 - 1) = t) (hm : mUnquote l = match mUnq t with | some t => if t.length ≤ 200 then some t else none | none => none) :
    Calls Tryd.prog 46 #[str l] w fun e w' => e = .returned (.tuple #[str (unqV l), .int .i64 (unqE l)]) ∧ Below w.heap.size w w' := by
  have hm' := hide hm; clear hm
  have htl : t.length = l.length - 2 := by rw [← ht]; simp; omega
  have htl' := hide htl; clear htl
  go_enter Tryd.func46, Tryd.ntmps46
  go_wp2_with fail
  have hmx : t.length ≤ 40000000000000 := by have := htl'.out; omega
  go_loopw [5, 6] (fun v i wr => ∃ (k : Nat) (A : Option Addr) (c : Nat) (bs : List UInt8), k ≤ t.length ∧ i = .int .i64 k ∧ bs.length ≤ k ∧ v = .slice A bs.length c ∧ OwnB wr w.heap.size A c bs ∧ mUnq t = (mUnq (t.drop k)).map (bs ++ ·) ∧ Below w.heap.size w wr) (fun _ i _ => t.length - (intOf i).toNat)
  case atStart =>
    refine ⟨0, none, 0, [], Nat.zero_le _, rfl, Nat.le_refl _, rfl, OwnB.nil _ _, ?_, Below.refl _ _⟩
    simp
  case round =>
    obtain ⟨k, A, c, bs, hk, rfl, hbk, rfl, hown, he, hbl⟩ := hrel
    have he' := hide he; clear he
    have hsz := hbl.size
    by_cases hlt : k < t.length
    · obtain ⟨y, hy, hdy⟩ := str_at t hlt
      have hdy' := hide hdy; clear hdy
      cases hp : isPlain y
      · have hp' := hide hp; clear hp
        by_cases hy92 : y.toNat = 92
        · have hy' : ((y.toNat : Int) != 92) = false := by rw [bne_eq_false_iff_eq]; omega
          have hy2 := hide hy92; clear hy92
          by_cases h3 : k + 2 < t.length
          · obtain ⟨yh, hyh, hdh⟩ := str_at t (k := k + 1) (by omega)
            obtain ⟨yl, hyl, hdl⟩ := str_at t (k := k + 2) (by omega)
            have hesc : mUnq (t.drop k) = mUnq (y :: yh :: yl :: t.drop (k + 3)) := by rw [hdy'.out, hdh, hdl]
            have hesc' := hide hesc; clear hesc hdh hdl
            have h3' : (k : Int) + 2 < t.length := by omega
            go_wp2_with (go_at_call 55; with_reducible refine (wordPlain_any y _).mono ?_; rintro e w' ⟨rfl, rfl⟩; rw [hp'.out])
            cases hh : hexV yh with
            | none =>
              have hh' := hide hh; clear hh
              with_reducible refine (wordDigit_any yh _).mono ?_
              rintro e w' ⟨rfl, rfl⟩
              rw [hh'.out]
              go_wp2_with fail
              with_reducible refine (wordDigit_any yl _).mono ?_
              rintro e w' ⟨rfl, rfl⟩
              go_wp2_with fail
              have hq : mUnq t = none := by rw [he'.out, hesc'.out, mUnq_esc hp'.out hy2.out, hh'.out]; simp only [Option.map_none]
              have hn : mUnquote l = none := by rw [hm'.out, hq]
              go_ret2
              rw [(unqVE_none hn).1, (unqVE_none hn).2]
              exact ⟨rfl, hbl⟩
            | some x =>
              have hh' := hide hh; clear hh
              have hx16 := hexV_lt hh'.out
              with_reducible refine (wordDigit_any yh _).mono ?_
              rintro e w' ⟨rfl, rfl⟩
              rw [hh'.out]
              go_wp2_with fail
              cases hl : hexV yl with
              | none =>
                have hl' := hide hl; clear hl
                with_reducible refine (wordDigit_any yl _).mono ?_
                rintro e w' ⟨rfl, rfl⟩
                rw [hl'.out]
                go_wp2_with fail
                have hq : mUnq t = none := by rw [he'.out, hesc'.out, mUnq_esc hp'.out hy2.out, hh'.out, hl'.out]; simp only [Option.map_none]
                have hn : mUnquote l = none := by rw [hm'.out, hq]
                go_ret2
                rw [(unqVE_none hn).1, (unqVE_none hn).2]
                exact ⟨rfl, hbl⟩
              | some z =>
                have hl' := hide hl; clear hl
                have hz16 := hexV_lt hl'.out
                with_reducible refine (wordDigit_any yl _).mono ?_
                rintro e w' ⟨rfl, rfl⟩
                rw [hl'.out]
                obtain ⟨v, hv⟩ : ∃ v, v = UInt8.ofNat (16 * x + z) := ⟨_, rfl⟩
                have hor := bits_or_hex x z hx16 hz16
                rw [← hv] at hor
                have hv' := hide hv; clear hv
                go_wp2_with fail
                with_reducible refine (wordPlain_any v _).mono ?_
                rintro e w' ⟨rfl, rfl⟩
                cases hpv : isPlain v
                · have hpv' := hide hpv; clear hpv
                  go_wp2_with (at_builtin; refine wpList_appB rfl (.tmp 86) (.tmp 91) rfl w.heap.size A c bs rfl (hown.alloc _) _ 1 1 [v] rfl rfl (newsB _ [v] _) (by omega) (by simp; omega) ?_; intro A' c' w1 bs1 hb1 hown1 hB1; have hb1' := hide hb1; clear hb1)
                  have hl1 : bs1.length = bs.length + 1 := by rw [hb1'.out]; simp
                  go_roundw
                  case rel =>
                    refine ⟨k + 3, A', c', bs1, by omega, by go_num, by omega, rfl, hown1, ?_, hbl.trans (((Below.refl _ _).alloc hsz _).trans (hB1.mono (Nat.le_refl _)))⟩
                    rw [he'.out, hesc'.out, mUnq_esc hp'.out hy2.out, hh'.out, hl'.out]
                    simp only [← hv'.out, hpv'.out, Bool.false_eq_true, if_false, hb1'.out, Option.map_map]
                    congr 1
                    funext s
                    simp
                  case measure => simp [intOf]; omega
                · have hpv' := hide hpv; clear hpv
                  go_wp2_with fail
                  have hq : mUnq t = none := by rw [he'.out, hesc'.out, mUnq_esc hp'.out hy2.out, hh'.out, hl'.out]; simp only [← hv'.out, hpv'.out, if_true, Option.map_none]
                  have hn : mUnquote l = none := by rw [hm'.out, hq]
                  go_ret2
                  rw [(unqVE_none hn).1, (unqVE_none hn).2]
                  exact ⟨rfl, hbl⟩
          · have h3' : (t.length : Int) ≤ k + 2 := by omega
            go_wp2_with (go_at_call 55; with_reducible refine (wordPlain_any y _).mono ?_; rintro e w' ⟨rfl, rfl⟩; rw [hp'.out])
            have hq : mUnq t = none := by rw [he'.out, hdy'.out, mUnq_short hp'.out (by simp; omega)]; simp only [Option.map_none]
            have hn : mUnquote l = none := by rw [hm'.out, hq]
            go_ret2
            rw [(unqVE_none hn).1, (unqVE_none hn).2]
            exact ⟨rfl, hbl⟩
        · have hy' : ((y.toNat : Int) != 92) = true := by rw [bne_iff_ne]; omega
          have hy2 := hide hy92; clear hy92
          go_wp2_with (go_at_call 55; with_reducible refine (wordPlain_any y _).mono ?_; rintro e w' ⟨rfl, rfl⟩; rw [hp'.out])
          have hq : mUnq t = none := by rw [he'.out, hdy'.out, mUnq_bad hp'.out hy2.out]; simp only [Option.map_none]
          have hn : mUnquote l = none := by rw [hm'.out, hq]
          go_ret2
          rw [(unqVE_none hn).1, (unqVE_none hn).2]
          exact ⟨rfl, hbl⟩
      · have hp' := hide hp; clear hp
        go_wp2_with (first | (go_at_call 55; with_reducible refine (wordPlain_any y _).mono ?_; rintro e w' ⟨rfl, rfl⟩; rw [hp'.out]) | (at_builtin; refine wpList_appB rfl (.tmp 44) (.tmp 46) rfl w.heap.size A c bs rfl (hown.alloc _) _ 1 1 [y] rfl rfl (newsB _ [y] _) (by omega) (by simp; omega) ?_; intro A' c' w1 bs1 hb1 hown1 hB1; have hb1' := hide hb1; clear hb1))
        have hl1 : bs1.length = bs.length + 1 := by rw [hb1'.out]; simp
        go_roundw
        case rel =>
          refine ⟨k + 1, A', c', bs1, by omega, by go_num, by omega, rfl, hown1, ?_, hbl.trans (((Below.refl _ _).alloc hsz _).trans (hB1.mono (Nat.le_refl _)))⟩
          rw [he'.out, hdy'.out, mUnq_plain hp'.out, hb1'.out, Option.map_map]
          congr 1
          funext s
          simp
        case measure => simp [intOf]; omega
    · have hkt : k = t.length := by omega
      have hfin : mUnq t = some bs := by
        rw [he'.out, List.drop_eq_nil_of_le (by omega)]
        simp [mUnq]
      have hfin' := hide hfin; clear hfin
      have hkt' := hide hkt; clear hkt
      have hcv := run_conv (P := Tryd.prog) (c := c) hown.rd rfl Tryd.underlying25 Tryd.underlying5 Tryd.underlying9
      by_cases h200 : (bs.length : Int) ≤ 200
      · go_wp2_with fail
        have hn : mUnquote l = some bs := by
          rw [hm'.out, hfin'.out]
          exact if_pos (by omega)
        go_ret2
        rw [(unqVE_some hn).1, (unqVE_some hn).2]
        exact ⟨rfl, hbl⟩
      · go_wp2_with fail
        have hn : mUnquote l = none := by
          rw [hm'.out, hfin'.out]
          exact if_neg (by omega)
        go_ret2
        rw [(unqVE_none hn).1, (unqVE_none hn).2]
        exact ⟨rfl, hbl⟩

theorem getLast?_at (l : List UInt8) (h : 2 ≤ l.length) : l.getLast? = some (l[l.length - 1]'(by omega)) := by
  rw [List.getLast?_eq_getElem?, List.getElem?_eq_getElem]
theorem head?_at (l : List UInt8) (h : 2 ≤ l.length) : l.head? = some (l[0]'(by omega)) := by
  rw [List.head?_eq_getElem?, List.getElem?_eq_getElem]
theorem mid_take (l : List UInt8) : l.tail.take (l.length - 1 - 1) = l.tail.dropLast := by
  rw [List.dropLast_eq_take, List.length_tail]

theorem wordUnquote_any (l : List UInt8) (w : World) (hmax : l.length ≤ 40000000000000) :
    Calls Tryd.prog 46 #[str l] w fun e w' => e = .returned (.tuple #[str (unqV l), .int .i64 (unqE l)]) ∧ Below w.heap.size w w' := by
  by_cases h2 : l.length < 2
  · have hn : mUnquote l = none := by rw [mUnquote, if_neg (by omega)]
    have hn' := hide hn; clear hn
    have h2' : (l.length : Int) < 2 := by omega
    go_enter Tryd.func46, Tryd.ntmps46
    go_wp2_with fail
    go_ret2
    rw [(unqVE_none hn'.out).1, (unqVE_none hn'.out).2]
    exact ⟨rfl, Below.refl _ _⟩
  · obtain ⟨x, hx, hdx⟩ := str_at l (k := 0) (by omega)
    obtain ⟨z, hz, hdz⟩ := str_at l (k := l.length - 1) (by omega)
    have hh : l.head? = some x := by rw [head?_at l (by omega), hx]
    have hg : l.getLast? = some z := by rw [getLast?_at l (by omega), hz]
    by_cases h3 : x = 34
    · by_cases h4 : z = 34
      · subst h3
        subst h4
        refine wordUnquote_body l l.tail.dropLast w hmax (by omega) hx hz (mid_take l) ?_
        rw [mUnquote, if_pos ⟨by omega, hh, hg⟩]
        rfl
      · have hn : mUnquote l = none := by rw [mUnquote, if_neg (by rw [hg]; simp [h4])]
        have hn' := hide hn; clear hn hh hg hdx hdz
        subst h3
        have h4' : ((z.toNat : Int) != 34) = true := by
          rw [bne_iff_ne]
          intro e
          exact h4 (UInt8.toNat_inj.1 (by show z.toNat = 34; omega))
        have h2' : 2 ≤ (l.length : Int) := by omega
        clear h4
        go_enter Tryd.func46, Tryd.ntmps46
        go_wp2_with fail
        go_ret2
        rw [(unqVE_none hn'.out).1, (unqVE_none hn'.out).2]
        exact ⟨rfl, Below.refl _ _⟩
    · have hn : mUnquote l = none := by rw [mUnquote, if_neg (by rw [hh]; simp [h3])]
      have hn' := hide hn; clear hn hh hg hdx hdz
      have h3' : ((x.toNat : Int) != 34) = true := by
        rw [bne_iff_ne]
        intro e
        exact h3 (UInt8.toNat_inj.1 (by show x.toNat = 34; omega))
      have h2' : 2 ≤ (l.length : Int) := by omega
      clear h3
      go_enter Tryd.func46, Tryd.ntmps46
      go_wp2_with fail
      go_ret2
      rw [(unqVE_none hn'.out).1, (unqVE_none hn'.out).2]
      exact ⟨rfl, Below.refl _ _⟩

/-! the reference -/
def quoV (s : List UInt8) : List UInt8 := (mQuote s).getD []
def quoE (s : List UInt8) : Int := if (mQuote s).isSome then 0 else 2
theorem mid_at (l : List UInt8) {k : Nat} (h : k < (mMid l).length) : ∃ (y : UInt8) (h' : k + 1 < l.length), l[k + 1]'h' = y ∧ (mMid l).drop k = y :: (mMid l).drop (k + 1) := by
  have hl : (mMid l).length = l.length - 1 - 1 := by simp [mMid]
  refine ⟨(mMid l)[k], by omega, ?_, List.drop_eq_getElem_cons h⟩
  simp [mMid, List.getElem_dropLast, List.getElem_tail]
theorem hexI_some {c : UInt8} {x : Nat} (h : hexV c = some x) : hexI c = x := by simp [hexI, h]
theorem hexI_none {c : UInt8} (h : hexV c = none) : hexI c = -1 := by simp [hexI, h]

end Go.Proofs.YtoadmjnaakbljaaDoor
