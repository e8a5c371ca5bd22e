/- Walks: the program's text of a text (word.Quote); the wakes of the statements on words. -/
import Derived.Test.YtbinmbjcijndhaaDoorWordN
import Derived.Test.YtbinmbjcijndhaaDoorBytes3
import Derived.Test.YtbinmbjcijndhaaDoorDrawn
namespace Go.Proofs.YtbinmbjcijndhaaDoor
open Go Go.RowKit

set_option maxHeartbeats 2000000
set_option maxRecDepth 100000

theorem laterX_alloc (x : Option Nat) (W : World) (o : Obj) : LaterX x W (W.alloc o) := ⟨by simp, fun p hp _ => World.cell?_alloc_lt W o p hp⟩
theorem rdB_mark0 (w : World) (bs : List UInt8) (t : TypeId) (cs : Array Value) (h : cs = (bs.map fun x => Value.int .u8 (x.toNat : Int)).toArray) : RdB (w.alloc (.cells cs t)) (some ⟨w.heap.size, 0, none⟩) bs := by
  subst h
  exact fun j hj => ⟨_, rfl, newsB w bs t j hj⟩

theorem hexD_nat : ∀ n, n < 16 → ((hexD n).toNat : Int) = if n < 10 then (48 : Int) + n else 87 + n := by decide
theorem wordHex_any (n : Nat) (h : n < 16) (w : World) : Calls Tryd.prog 27 #[.int .u8 n] w fun e w' => e = .returned (.int .u8 ((hexD n).toNat : Int)) ∧ w = w' := by
  have hh := hide (hexD_nat n h)
  by_cases h10 : n < 10
  · have h1 : (n : Int) < 10 := by omega
    go_enter Tryd.func27, Tryd.ntmps27
    go_wp2_with fail
    go_ret
    refine ⟨ret_int ?_, rfl⟩
    rw [hh.out, if_pos h10]
  · have h1 : ¬ (n : Int) < 10 := by omega
    have h2 : (n : Int) < 16 := by omega
    go_enter Tryd.func27, Tryd.ntmps27
    go_wp2_with fail
    go_ret
    refine ⟨ret_int ?_, rfl⟩
    rw [hh.out, if_neg h10]
    omega

theorem wordQuote_any (l : List UInt8) (w : World) (hmax : l.length ≤ 9223372036854775807) :
    Calls Tryd.prog 15 #[str l] w fun e w' => e = .returned (.tuple #[str (quoV l), .int .i64 (quoE l)]) ∧ Below w.heap.size w w' := by
  by_cases hbig : 200 < l.length
  · have h1 : quoV l = [] := by simp [quoV, mQuote, show ¬ l.length ≤ 200 by omega]
    have h2 : quoE l = 2 := by simp [quoE, mQuote, show ¬ l.length ≤ 200 by omega]
    have h1' := hide h1; have h2' := hide h2; clear h1 h2
    have hbig' : (200 : Int) < l.length := by omega
    go_enter Tryd.func15, Tryd.ntmps15
    go_wp2_with fail
    go_ret2
    rw [h1'.out, h2'.out]
    exact ⟨rfl, Below.refl _ _⟩
  have h1 : quoV l = mLong l := by simp [quoV, mQuote, show l.length ≤ 200 by omega]
  have h2 : quoE l = 0 := by simp [quoE, mQuote, show l.length ≤ 200 by omega]
  have h1' := hide h1; have h2' := hide h2; clear h1 h2
  have hbig' : (l.length : Int) ≤ 200 := by omega
  go_enter Tryd.func15, Tryd.ntmps15
  go_wp2_with fail
  go_loopw [4, 5] (fun v i wr => ∃ (k : Nat) (A : Option Addr) (c : Nat), k ≤ l.length ∧ i = .int .i64 k ∧ v = .slice A (34 :: (l.take k).flatMap esc).length c ∧ OwnB wr w.heap.size A c (34 :: (l.take k).flatMap esc) ∧ Below w.heap.size w wr) (fun _ i _ => l.length - (intOf i).toNat)
  case atStart => exact ⟨0, _, _, by omega, rfl, rfl, OwnB.made w [34] (by decide), (Below.refl _ _).alloc (Nat.le_refl _) _⟩
  case round =>
    obtain ⟨k, A, c, hk, rfl, rfl, hown, hbl⟩ := hrel
    generalize hbs : (34 :: (l.take k).flatMap esc : List UInt8) = bs at hown ⊢
    have hbs' := hide hbs; clear hbs
    have hsz := hbl.size
    have hlen : bs.length ≤ 1000 := by
      rw [← hbs'.out]
      have := escs_len (l.take k)
      simp only [List.length_take, List.length_cons] at *
      omega
    by_cases hlt : k < l.length
    · obtain ⟨y, hy, hdy⟩ := str_at l hlt
      have htk : 34 :: (l.take (k + 1)).flatMap esc = bs ++ esc y := by
        rw [← hbs'.out, ← List.take_append_getElem hlt, hy]
        simp
      have htk' := hide htk; clear htk hdy
      have hyl := y.toNat_lt
      cases hp : isPlain y
      · have hp' := hide hp; clear hp
        obtain ⟨p, hpp⟩ : ∃ p, p = y.toNat / 16 := ⟨_, rfl⟩
        obtain ⟨q, hqq⟩ : ∃ q, q = y.toNat % 16 := ⟨_, rfl⟩
        have hp16 : p < 16 := by omega
        have hq16 : q < 16 := by omega
        have e1 : (y.toNat : Int) / 16 = (p : Int) := by omega
        have e2 : bits BinOp.and IntKind.u8 (y.toNat : Int) 15 = (q : Int) := by rw [bits_and15, hqq]
        have hesc : esc y = [92, hexD p, hexD q] := by
          rw [esc, hp'.out, hpp, hqq]
          rfl
        have hesc' := hide hesc; clear hesc
        have hpq' := hide (And.intro hpp hqq); clear hpp hqq
        go_wp2_with (go_at_call 26; with_reducible refine (wordPlain_any y _).mono ?_; rintro e w' ⟨rfl, rfl⟩; rw [hp'.out])
        refine drawn_startX (Value.slice A bs.length c).ownBlock (by kernel_rfl) ?_
        refine take_atX (v := ?_) 0 rfl (by kernel_rfl) (by kernel_rfl) (by kernel_rfl) rfl (fun w' hw' => ?_) ?_; rotate_left; · (go_simp <;> with_reducible rfl)
        simp only [Act.put, List.setIfInBounds_toArray, List.set_cons_zero, List.set_cons_succ]
        refine take_atX (v := ?_) 1 rfl (by kernel_rfl) (by kernel_rfl) (by kernel_rfl) rfl (fun w' hw' => ?_) ?_; rotate_left; · (go_simp <;> with_reducible rfl)
        simp only [Act.put, List.setIfInBounds_toArray, List.set_cons_zero, List.set_cons_succ]
        refine take_atX (v := ?_) 2 rfl (by kernel_rfl) (by kernel_rfl) (by kernel_rfl) rfl (fun w' hw' => ?_) ?_; rotate_left; · (go_simp <;> with_reducible rfl)
        simp only [Act.put, List.setIfInBounds_toArray, List.set_cons_zero, List.set_cons_succ]
        refine take_atX (v := ?_) 3 rfl (by kernel_rfl) (by kernel_rfl) (by kernel_rfl) rfl (fun w' hw' => ?_) ?_; rotate_left; · (go_simp <;> with_reducible rfl)
        simp only [Act.put, List.setIfInBounds_toArray, List.set_cons_zero, List.set_cons_succ]
        refine take_atX (v := ?_) 4 rfl (by kernel_rfl) (by kernel_rfl) (by kernel_rfl) rfl (fun w' hw' => ?_) ?_; rotate_left; · (go_simp <;> with_reducible rfl)
        simp only [Act.put, List.setIfInBounds_toArray, List.set_cons_zero, List.set_cons_succ]
        refine take_atX (v := ?_) 6 rfl (by kernel_rfl) (by kernel_rfl) (by kernel_rfl) rfl (fun w' hw' => ?_) ?_; rotate_left; · (go_simp <;> with_reducible rfl)
        simp only [Act.put, List.setIfInBounds_toArray, List.set_cons_zero, List.set_cons_succ]
        refine take_atX (v := ?_) 7 rfl (by kernel_rfl) (by kernel_rfl) (by kernel_rfl) rfl (fun w' hw' => ?_) ?_; rotate_left; · (go_simp <;> with_reducible rfl)
        simp only [Act.put, List.setIfInBounds_toArray, List.set_cons_zero, List.set_cons_succ]
        refine take_atX (v := ?_) 8 rfl (by kernel_rfl) (by kernel_rfl) (by kernel_rfl) rfl (fun w' hw' => ?_) ?_; rotate_left; · (go_simp <;> with_reducible rfl)
        simp only [Act.put, List.setIfInBounds_toArray, List.set_cons_zero, List.set_cons_succ]
        refine take_atX (v := ?_) 9 rfl (by kernel_rfl) (by kernel_rfl) (by kernel_rfl) rfl (fun w' hw' => ?_) ?_; rotate_left; · (go_simp <;> with_reducible rfl)
        simp only [Act.put, List.setIfInBounds_toArray, List.set_cons_zero, List.set_cons_succ]
        refine sole_atX 5 (by kernel_rfl) rfl rfl (fun K hK => ?_)
        go_simp
        refine (wordHex_any p hp16 _).mono ?_
        rintro e w' ⟨rfl, rfl⟩
        go_wp2_with fail
        refine hK.out _ _ (LaterX.refl _ _) ?_
        clear hK K
        refine sole_atX 10 (by kernel_rfl) rfl rfl (fun K hK => ?_)
        go_simp
        refine (wordHex_any q hq16 _).mono ?_
        rintro e w' ⟨rfl, rfl⟩
        go_wp2_with fail
        refine hK.out _ _ (LaterX.refl _ _) ?_
        clear hK K
        refine sole_atX 11 (by kernel_rfl) rfl rfl (fun K hK => ?_)
        go_simp
        refine hK.out _ _ (laterX_alloc _ _ _) ?_
        clear hK K
        try simp only [Act.put, List.setIfInBounds_toArray, List.set_cons_zero, List.set_cons_succ]
        refine sole_atX 12 (by kernel_rfl) rfl rfl (fun K hK => ?_)
        refine wp_appBG (.tmp 26) (.tmp 37) rfl w.heap.size A c bs rfl (hown.drew.alloc _) (some ⟨wr.heap.size, 0, none⟩) 3 3 [92, hexD p, hexD q] rfl rfl (rdB_mark0 wr.drew [92, hexD p, hexD q] _ _ rfl) (by omega) (by show w.heap.size ≤ (wr.drew.alloc _).heap.size; simp; omega) ?_
        intro A' c' w1 bs1 hb1 hown1 hB1 hg1; have hb1' := hide hb1; clear hb1
        refine hK.out _ _ (laterX_grown hg1) ?_
        clear hK K
        try simp only [Act.put, List.setIfInBounds_toArray, List.set_cons_zero, List.set_cons_succ]
        refine take_atX (v := ?_) 13 rfl (by kernel_rfl) (by kernel_rfl) (by kernel_rfl) rfl (fun w' hw' => ?_) ?_; rotate_left; · (go_simp <;> with_reducible rfl)
        simp only [Act.put, List.setIfInBounds_toArray, List.set_cons_zero, List.set_cons_succ]
        refine drawn_doneX (by kernel_rfl) ?_
        go_wp2_with fail
        go_roundw
        case rel =>
          refine ⟨k + 1, A', c', by omega, by go_num, ?_, ?_, ?_⟩
          · rw [htk'.out, hesc'.out, ← hb1'.out]
          · rw [htk'.out, hesc'.out, ← hb1'.out]; exact hown1
          · exact hbl.trans ((((Below.refl _ _).drew).alloc hsz _).trans (hB1.mono (Nat.le_refl _)))
        case measure => simp [intOf]; omega
      · have hp' := hide hp; clear hp
        go_wp2_with (first | (go_at_call 26; with_reducible refine (wordPlain_any y _).mono ?_; rintro e w' ⟨rfl, rfl⟩; rw [hp'.out]) | (at_builtin; refine wpList_appB rfl (.tmp 20) (.tmp 24) rfl w.heap.size A c bs rfl (hown.alloc _) _ 1 1 [y] rfl rfl (newsB _ [y] _) (by omega) (by simp; omega) ?_; intro A' c' w1 bs1 hb1 hown1 hB1; have hb1' := hide hb1; clear hb1))
        have hesc : esc y = [y] := by rw [esc, hp'.out]; rfl
        go_roundw
        case rel =>
          refine ⟨k + 1, A', c', by omega, by go_num, ?_, ?_, ?_⟩
          · rw [htk'.out, hesc, ← hb1'.out]
          · rw [htk'.out, hesc, ← hb1'.out]; exact hown1
          · exact hbl.trans (((Below.refl _ _).alloc hsz _).trans (hB1.mono (Nat.le_refl _)))
        case measure => simp [intOf]; omega
    · go_wp2_with (at_builtin; refine wpList_appB rfl (.tmp 39) (.tmp 40) rfl w.heap.size A c bs rfl (hown.alloc _) _ 1 1 [34] rfl rfl (newsB _ [34] _) (by omega) (by simp; omega) ?_; intro A' c' w1 bs1 hb1 hown1 hB1; have hb1' := hide hb1; clear hb1; have hcv := run_conv (P := Tryd.prog) (c := c') hown1.rd rfl Tryd.underlying28 Tryd.underlying5 Tryd.underlying9)
      go_ret2
      rw [h1'.out, h2'.out]
      have hfin : bs1 = mLong l := by
        rw [hb1'.out, ← hbs'.out, List.take_of_length_le (by omega)]
        rfl
      rw [hfin]
      exact ⟨rfl, hbl.trans (((Below.refl _ _).alloc hsz _).trans (hB1.mono (Nat.le_refl _)))⟩

def wn1 : List UInt8 := [126, 57, 50, 50, 51, 51, 55, 50, 48, 51, 54, 56, 53, 52, 55, 55, 53, 56, 48, 56]
def wt1 : List UInt8 := [34, 97, 92, 50, 50, 34]
theorem wakesW_any (w : World) (htab : tab10 w w.heap.size) : Calls Tryd.prog 11 #[] w fun e w' => e = .returned (.bool true) ∧ Below w.heap.size w w' := by
  have e1 : numV wn1 = -9223372036854775808 := by decide +kernel
  have e2 : numE wn1 = 0 := by decide +kernel
  have e3 : unqV wt1 = [97, 34] := by decide +kernel
  have e4 : unqE wt1 = 0 := by decide +kernel
  have e5 : mName [120, 49, 39] = true := by decide +kernel
  have e6 : mName [105, 110] = false := by decide +kernel
  have e7 : mKey [105, 110] = true := by decide +kernel
  have e8 : mNum (-5) = [126, 53] := by decide +kernel
  have hc1 := wordParseNum_any wn1 w (by decide)
  rw [e1, e2] at hc1
  have hc2 := wordUnquote_any wt1 w (by decide)
  rw [e3, e4] at hc2
  have c1 := hide hc1; have c2 := hide hc2
  have f5 := hide e5; have f6 := hide e6; have f7 := hide e7; have f8 := hide e8
  clear hc1 hc2 e1 e2 e3 e4 e5 e6 e7 e8
  go_enter Tryd.func11, Tryd.ntmps11
  go_wp2_with fail
  refine (Calls.mono c1.out ?_)
  rintro e w' ⟨rfl, rfl⟩
  go_wp2_with fail
  refine (Calls.mono c2.out ?_)
  rintro e w1 ⟨rfl, hb1⟩
  have hsz1 := hb1.size
  have ht1 : Lib.TabIs Tryd.prog w1 "internal/strconv.uint64pow10" .u64 Lib.pow10Tab := (htab.on hb1).here
  have ht1' := hide ht1; have htab' := hide htab; clear ht1 htab
  go_wp2_with fail
  refine (wordName_any [120, 49, 39] _ (by decide)).mono ?_
  rintro e w' ⟨rfl, rfl⟩
  rw [f5.out]
  go_wp2_with fail
  refine (wordName_any [105, 110] _ (by decide)).mono ?_
  rintro e w' ⟨rfl, rfl⟩
  rw [f6.out]
  go_wp2_with fail
  refine (wordKey_any [105, 110] _).mono ?_
  rintro e w' ⟨rfl, rfl⟩
  rw [f7.out]
  go_wp2_with fail
  refine (wordNum_any (-5) (by decide) (by decide) _ ht1'.out).mono ?_
  rintro e w2 ⟨rfl, hb2⟩
  rw [f8.out]
  go_wp2_with fail
  go_ret
  exact ⟨rfl, hb1.trans (hb2.mono hsz1)⟩

end Go.Proofs.YtbinmbjcijndhaaDoor
