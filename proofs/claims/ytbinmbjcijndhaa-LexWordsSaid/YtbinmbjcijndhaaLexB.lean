/- Walk: tokens without their places (suretylaw02.bare). -/
import Derived.Test.YtbinmbjcijndhaaLexX
namespace Go.Proofs.Ytbinmbjcijndhaa
open Go Go.RowKit

set_option maxHeartbeats 2000000
set_option maxRecDepth 100000

theorem bare_any (A : Option Addr) (c : Nat) (ts : List Tok) (w : World) (ha : RdT w A ts) (h1 : ts.length ≤ 1000000000) :
    Calls Try.prog 12 #[.slice A ts.length c] w fun e w' => (∃ A' c', e = .returned (.slice A' (ts.map Tok.nude).length c') ∧ OwnT w' w.heap.size A' c' (ts.map Tok.nude)) ∧ Below w.heap.size w w' := by
  go_enter Try.func12, Try.ntmps12
  go_wp2_with fail
  go_loopw [3, 4] (fun l i wr => ∃ (k : Nat) (us : List Tok) (A' : Option Addr) (c' : Nat), k ≤ ts.length ∧ i = .int .i64 k ∧ us = (ts.take k).map Tok.nude ∧ us.length = k ∧ l = .slice A' us.length c' ∧ OwnT wr w.heap.size A' c' us ∧ Below w.heap.size w wr) (fun _ i _ => ts.length - (intOf i).toNat)
  case atStart => exact ⟨0, [], none, 0, by omega, rfl, rfl, rfl, rfl, OwnG.nil _ _, Below.refl _ _⟩
  case round =>
    obtain ⟨k, us, A', c', hk, rfl, hus, hul, rfl, hown, hbl⟩ := hrel
    have hus' := hide hus; have hul' := hide hul; clear hus hul
    have hsz := hbl.size
    by_cases hlt : k < ts.length
    · obtain ⟨ad, p, x, rfl, hp, hx, hdx, hcx⟩ := (ha.below hbl).at_ hlt
      have hx' := hide hx; clear hx hdx
      obtain ⟨x0, x1, x2, x3, x4⟩ := tok_cells hcx
      clear hcx
      go_wp2_with (at_builtin; refine wpList_appG rowTok rfl (.tmp 18) (.tmp 20) rfl w.heap.size A' c' us rfl ((hown.alloc _).alloc _) ⟨wr.heap.size + 1, 0, none⟩ 1 1 [x.nude] rfl rfl (newsG_at tokC _ _ (by simp) [x.nude] _) (by have := hul'.out; omega) (by have := hul'.out; omega) (by simp; omega) ?_; intro A2 c3' w2 ts2 ht2 hown2 hB2 hg2; have ht2' := hide ht2; clear ht2)
      have hbw2 : Below w.heap.size w w2 := ((hbl.alloc (by omega) _).alloc (by simp; omega) _).trans hB2
      go_roundw
      case rel =>
        refine ⟨k + 1, ts2, A2, c3', by omega, by go_num, ?_, ?_, rfl, hown2, hbw2⟩
        · rw [ht2'.out, hus'.out, List.take_add_one, hx'.out, List.map_append]; rfl
        · rw [ht2'.out, List.length_append, hul'.out]; rfl
      case measure => simp [intOf]; omega
    · have hkl : ts.take k = ts := List.take_of_length_le (by omega)
      have hkl' := hide hkl; clear hkl
      go_wp2_with fail
      go_ret
      refine ⟨?_, hbl⟩
      rw [hkl'.out] at hus'
      rw [← hus'.out]
      exact ⟨A', c', rfl, hown⟩

end Go.Proofs.Ytbinmbjcijndhaa
