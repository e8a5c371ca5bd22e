/- Walks: texts written and read, numbers written. -/
import Derived.Test.YtbinmbjcijndhaaDoorLexW3
import Derived.Test.YtbinmbjcijndhaaDoorBytes
namespace Go.Proofs.YtbinmbjcijndhaaDoor
open Go Go.RowKit

set_option maxHeartbeats 1000000
set_option maxRecDepth 100000

theorem isPlain_iff (c : UInt8) : isPlain c = true ↔ 32 ≤ c.toNat ∧ c.toNat ≤ 126 ∧ c.toNat ≠ 34 ∧ c.toNat ≠ 92 := by simp [isPlain, and_assoc]
theorem bits_and15 (y : UInt8) : bits BinOp.and IntKind.u8 (y.toNat : Int) 15 = ((y.toNat % 16 : Nat) : Int) := by
  have h : ∀ n : Fin 256, bits BinOp.and IntKind.u8 (n.val : Int) 15 = ((n.val % 16 : Nat) : Int) := by decide +kernel
  exact h ⟨y.toNat, y.toNat_lt⟩
theorem hexB_hexD : ∀ k, (h : k < 16) → hexB[k]'h = hexD k := by decide +kernel
theorem escs_len (l : List UInt8) : (l.flatMap esc).length ≤ 3 * l.length := by
  induction l with
  | nil => simp
  | cons c r ih =>
    simp only [List.flatMap_cons, List.length_append, List.length_cons]
    have : (esc c).length ≤ 3 := by unfold esc; split <;> simp
    omega

theorem refLong_any (l : List UInt8) (w : World) (hmax : l.length ≤ 40000000000000) :
    Calls Tryd.prog 28 #[str l] w fun e w' => e = .returned (str (mLong l)) ∧ Below w.heap.size w w' := by
  go_enter Tryd.func28, Tryd.ntmps28
  go_wp2_with fail
  go_loopw [3, 4] (fun v i wr => ∃ (k : Nat) (A : Option Addr) (c : Nat), k ≤ l.length ∧ i = .int .i64 k ∧ v = .slice A (34 :: (l.take k).flatMap esc).length c ∧ OwnB wr w.heap.size A c (34 :: (l.take k).flatMap esc) ∧ Below w.heap.size w wr) (fun _ i _ => l.length - (intOf i).toNat)
  case atStart => exact ⟨0, _, _, by omega, rfl, rfl, OwnB.made w [34] (by decide), (Below.refl _ _).alloc (Nat.le_refl _) _⟩
  case round =>
    obtain ⟨k, A, c, hk, rfl, rfl, hown, hbl⟩ := hrel
    generalize hbs : (34 :: (l.take k).flatMap esc : List UInt8) = bs at hown ⊢
    have hbs' := hide hbs; clear hbs
    by_cases hlt : k < l.length
    · obtain ⟨y, hy, hdy⟩ := str_at l hlt
      have htk : 34 :: (l.take (k + 1)).flatMap esc = bs ++ esc y := by
        rw [← hbs'.out, ← List.take_append_getElem hlt, hy]
        simp
      have htk' := hide htk; clear htk hdy
      have hlen : bs.length ≤ 120000000000001 := by
        rw [← hbs'.out]
        have := escs_len (l.take k)
        simp only [List.length_take, List.length_cons] at *
        omega
      have hsz := hbl.size
      cases hp : isPlain y
      · have hp' := hide hp; clear hp
        obtain ⟨p, hpp⟩ : ∃ p, p = y.toNat / 16 := ⟨_, rfl⟩
        obtain ⟨q, hqq⟩ : ∃ q, q = y.toNat % 16 := ⟨_, rfl⟩
        have hyl := y.toNat_lt
        have hp16 : p < 16 := by omega
        have hq16 : q < 16 := by omega
        have hp16' : (p : Int) < 16 := by omega
        have hq16' : (q : Int) < 16 := by omega
        have e1 : (y.toNat : Int) / 16 = (p : Int) := by omega
        have e2 : bits BinOp.and IntKind.u8 (y.toNat : Int) 15 = (q : Int) := by rw [bits_and15, hqq]
        have e3 : ∀ h : p < 16, ([48, 49, 50, 51, 52, 53, 54, 55, 56, 57, 97, 98, 99, 100, 101, 102] : List UInt8)[p]'h = hexD p := fun h => hexB_hexD p h
        have e4 : ∀ h : q < 16, ([48, 49, 50, 51, 52, 53, 54, 55, 56, 57, 97, 98, 99, 100, 101, 102] : List UInt8)[q]'h = hexD q := fun h => hexB_hexD q h
        have hesc : esc y = [92, hexD p, hexD q] := by
          rw [esc, hp'.out, hpp, hqq]
          rfl
        have hesc' := hide hesc; clear hesc
        have hcases : (y.toNat < 32 ∨ 126 < y.toNat ∨ (32 ≤ y.toNat ∧ y.toNat ≤ 126 ∧ ((y.toNat : Int) != 34) = false) ∨ (32 ≤ y.toNat ∧ y.toNat ≤ 126 ∧ ((y.toNat : Int) != 34) = true ∧ ((y.toNat : Int) != 92) = false)) := by
          have := hp'.out
          rw [← Bool.not_eq_true, isPlain_iff] at this
          simp only [bne_eq_false_iff_eq, bne_iff_ne, ne_eq]
          omega
        have hpq' := hide (And.intro hpp hqq); clear hpp hqq
        rcases hcases with z | z | ⟨z1, z2, z⟩ | ⟨z1, z2, z3, z⟩
        all_goals
          go_wp2_with fail
          go_region_law (refine step_appB rfl (.tmp 34) (.tmp 41) rfl w.heap.size A c bs rfl (hown.alloc _).drew _ 3 3 [92, hexD p, hexD q] rfl rfl (newsBd _ [92, hexD p, hexD q] _) (by omega) (by simp; omega) ?_; intro A' c' w1 bs1 hb1 hown1 hB1; have hb1' := hide hb1; clear hb1)
          all_goals
            go_wp2_with fail
            go_roundw
            case rel =>
              refine ⟨k + 1, A', c', by omega, by go_num, ?_, ?_, ?_⟩
              · rw [htk'.out, hesc'.out, ← hb1'.out]
              · rw [htk'.out, hesc'.out, ← hb1'.out]; exact hown1
              · exact hbl.trans ((((Below.refl _ _).alloc hsz _).drew).trans (hB1.mono (Nat.le_refl _)))
            case measure => simp [intOf]; omega
      · have hp' := hide hp; clear hp
        obtain ⟨q1, q2, q3, q4⟩ := (isPlain_iff y).1 hp'.out
        have q3' : ((y.toNat : Int) != 34) = true := by rw [bne_iff_ne]; omega
        have q4' : ((y.toNat : Int) != 92) = true := by rw [bne_iff_ne]; omega
        clear q3 q4
        go_wp2_with (at_builtin; refine wpList_appB rfl (.tmp 30) (.tmp 32) rfl w.heap.size A c bs rfl (hown.alloc _) _ 1 1 [y] rfl rfl (newsB _ [y] _) (by omega) (by simp; omega) ?_; intro A' c' w1 bs1 hb1 hown1 hB1; have hb1' := hide hb1; clear hb1)
        have hesc : esc y = [y] := by rw [esc, hp'.out]; rfl
        go_roundw
        case rel =>
          refine ⟨k + 1, A', c', by omega, by go_num, ?_, ?_, ?_⟩
          · rw [htk'.out, hesc, ← hb1'.out]
          · rw [htk'.out, hesc, ← hb1'.out]; exact hown1
          · exact hbl.trans (((Below.refl _ _).alloc hsz _).trans (hB1.mono (Nat.le_refl _)))
        case measure => simp [intOf]; omega
    · have hsz := hbl.size
      have hlen : bs.length ≤ 120000000000001 := by
        rw [← hbs'.out]
        have := escs_len (l.take k)
        simp only [List.length_take, List.length_cons] at *
        omega
      go_wp2_with (at_builtin; refine wpList_appB rfl (.tmp 43) (.tmp 44) rfl w.heap.size A c bs rfl (hown.alloc _) _ 1 1 [34] rfl rfl (newsB _ [34] _) (by omega) (by simp; omega) ?_; intro A' c' w1 bs1 hb1 hown1 hB1; have hb1' := hide hb1; clear hb1; have hcv := run_conv (P := Tryd.prog) (c := c') hown1.rd rfl Tryd.underlying28 Tryd.underlying5 Tryd.underlying9)
      go_ret
      refine ⟨ret_str ?_, hbl.trans (((Below.refl _ _).alloc hsz _).trans (hB1.mono (Nat.le_refl _)))⟩
      rw [hb1'.out, ← hbs'.out, List.take_of_length_le (by omega)]
      rfl
end Go.Proofs.YtbinmbjcijndhaaDoor
