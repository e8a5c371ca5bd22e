/- The walk of the law PrintUnlike. -/
import Derived.Test.YtlagglkpbnbmeaaGreatDoorShC
import Derived.Test.YtlagglkpbnbmeaaGreatDoorRU
import Derived.Test.YtlagglkpbnbmeaaGreatDoorRD
namespace Go.Proofs.YtlagglkpbnbmeaaGreatDoor
open Go Go.RowKit
set_option maxRecDepth 100000
set_option maxHeartbeats 4000000
set_option linter.unusedVariables false
set_option linter.unusedSimpArgs false

theorem tx_err {e : Ex} (h : mCheck e = true) : textErr e = 0 ∧ textOf e = xEx e ∨ textErr e = 2 := by
  by_cases hs : (xEx e).length ≤ 16384
  · exact .inl ⟨(tx_ok h hs).2, (tx_ok h hs).1⟩
  exact .inr (tx_big h hs).2
theorem exsD_two (e f : Ex) : exsD [e, f] = [exX e, exX f] := by rw [exsD_map]; rfl
theorem lUnlike (e : Ex) (hL : ExL e) (hN : ExN e) (f : Ex) (hL2 : ExL f) (hN2 : ExN f) : Con Tryz.prog 8 [.agg (exX e), .agg (exX f)] [] (.c (.lit (.bool true))) [] := by
  have hH := tHeavy [e, f] (by simp) (fun x hx => by simp at hx; rcases hx with rfl | rfl <;> assumption); rw [exsD_two, hLst, hLst, hLst] at hH
  by_cases hb : 400 < hEx f (hEx e 0)
  · rw [decide_eq_true hb] at hH; refine gg [38,5,22,2002,22,2003,1,0,9,5,2003,2002,4,3,2,31,5,20,16,20,16] ?_; refine u rfl rfl (r_buildSlice (e := 30) (sz := 16) (zs := zx) ([exX e, exX f]) rfl rfl (by kernel_rfl) (by kernel_rfl) rfl rfl rfl rfl) ?_; refine gc (hH) [2,39,3,16,2,39,3,16,0,9,6,2003,2002,22,4,3,2,32,5,1,0,9,5,2003,2002,4,3,2,33] ?_; exact ⟨.inl rfl, _, rfl, .refl _, trivial⟩
  rw [decide_eq_false hb] at hH; have q1 := hEx_b e 0 (by omega); have q2 := hEx_b f (hEx e 0) q1.1; obtain ⟨hW, hg⟩ := light hL hN (by omega); obtain ⟨hW2, hg2⟩ := lightN q1.1 hL2 hN2 (by omega); have hR := rRight hW; have hR2 := rRight hW2; rw [right_check hW] at hR; rw [right_check hW2] at hR2
  by_cases hm : mCheck e = true
  · rw [hm] at hR
    by_cases hm2 : mCheck f = true
    · rw [hm2] at hR2; have hT := tText (exK_of hW) hN (fun hm => (hg hm).2); have hT2 := tText (exK_of hW2) hN2 (fun hm => (hg2 hm).2); have hS := tEx (n := 100000) (by decide) (exB_of hW hm) f; have hx := same_text (rex_of hN hm) (rex_of hN2 hm2)
      rcases tx_err hm with ⟨t1, t2⟩ | t1 <;> rcases tx_err hm2 with ⟨t3, t4⟩ | t3 <;> rw [t1] at hT <;> rw [t3] at hT2
      · rw [t2] at hT; rw [t4] at hT2; refine gg [38,5,22,2002,22,2003,1,0,9,5,2003,2002,4,3,2,31,5,20,16,20,16] ?_; refine u rfl rfl (r_buildSlice (e := 30) (sz := 16) (zs := zx) ([exX e, exX f]) rfl rfl (by kernel_rfl) (by kernel_rfl) rfl rfl rfl rfl) ?_; refine gc (hH) [2,20,16] ?_; refine gc (hR) [15,17,2,20,16] ?_; refine gc (hR2) [15,17,0,9,6,2003,2002,22,4,3,2,8,34,5,20,16] ?_; refine gc (hT) [2,14,14,1,1,0,9,7,2003,2002,6,5,4,3,2,5,20,16] ?_; refine gc (hT2) [2,14,14,1,1,0,9,9,2003,2002,8,7,6,5,4,3,2,31,5,2] ?_; refine u rfl rfl (r_neI rfl rfl rfl rfl) ?_; refine gg [2,2] ?_; refine u rfl rfl (r_neI rfl rfl rfl rfl) ?_; refine gg [17,0,9,10,2003,2002,38,8,7,6,5,4,3,2,8,34,5,2,2] ?_; refine bS ?_ ?_
        · intro h58; refine gg [20,16,20,16] ?_; refine uC (hS) ?_; refine u rfl rfl ((r_eqB rfl rfl (by kernel_rfl) rfl rfl).cast (cast_b (b' := true) (by rw [← hx, h58]; rfl))) ?_; refine gg [2] ?_; refine gc (kWakes7) [16,1,0,9,1,4,33] ?_; exact ⟨.inl rfl, _, rfl, .refl _, trivial⟩
        intro h58; refine gg [20,16,20,16] ?_; refine uC (hS) ?_; refine u rfl rfl ((r_eqB rfl rfl (by kernel_rfl) rfl rfl).cast (cast_b (b' := true) (by rw [← hx, h58]; rfl))) ?_; refine gg [2] ?_; refine gc (kWakes7) [16,1,0,9,1,4,33] ?_; exact ⟨.inl rfl, _, rfl, .refl _, trivial⟩
      · refine gg [38,5,22,2002,22,2003,1,0,9,5,2003,2002,4,3,2,31,5,20,16,20,16] ?_; refine u rfl rfl (r_buildSlice (e := 30) (sz := 16) (zs := zx) ([exX e, exX f]) rfl rfl (by kernel_rfl) (by kernel_rfl) rfl rfl rfl rfl) ?_; refine gc (hH) [2,20,16] ?_; refine gc (hR) [15,17,2,20,16] ?_; refine gc (hR2) [15,17,0,9,6,2003,2002,22,4,3,2,8,34,5,20,16] ?_; refine gc (hT) [2,14,14,1,1,0,9,7,2003,2002,6,5,4,3,2,5,20,16] ?_; refine gc (hT2) [2,14,14,1,1,0,9,9,2003,2002,8,7,6,5,4,3,2,31,5,2] ?_; refine u rfl rfl (r_neI rfl rfl rfl rfl) ?_; refine gg [2,2] ?_; refine u rfl rfl (r_neI rfl rfl rfl rfl) ?_; refine gg [17,0,9,10,2003,2002,38,8,7,6,5,4,3,2,32,5,2,26,2,3,3,16,2,2,26,2,2,26,17,16,2] ?_; refine gc (kWakes7) [16,1,0,9,7,2003,2002,7,5,4,3,2,33] ?_; exact ⟨.inl rfl, _, rfl, .refl _, trivial⟩
      · refine gg [38,5,22,2002,22,2003,1,0,9,5,2003,2002,4,3,2,31,5,20,16,20,16] ?_; refine u rfl rfl (r_buildSlice (e := 30) (sz := 16) (zs := zx) ([exX e, exX f]) rfl rfl (by kernel_rfl) (by kernel_rfl) rfl rfl rfl rfl) ?_; refine gc (hH) [2,20,16] ?_; refine gc (hR) [15,17,2,20,16] ?_; refine gc (hR2) [15,17,0,9,6,2003,2002,22,4,3,2,8,34,5,20,16] ?_; refine gc (hT) [2,14,14,1,1,0,9,7,2003,2002,6,5,4,3,2,5,20,16] ?_; refine gc (hT2) [2,14,14,1,1,0,9,9,2003,2002,8,7,6,5,4,3,2,31,5,2] ?_; refine u rfl rfl (r_neI rfl rfl rfl rfl) ?_; refine gg [2,3,3,16,0,9,10,2003,2002,38,8,7,6,5,4,3,2,32,5,2,26,2,2,26,17,2,2,26,2,3,3,16,16,2] ?_; refine gc (kWakes7) [16,1,0,9,7,2003,2002,7,5,4,3,2,33] ?_; exact ⟨.inl rfl, _, rfl, .refl _, trivial⟩
      refine gg [38,5,22,2002,22,2003,1,0,9,5,2003,2002,4,3,2,31,5,20,16,20,16] ?_; refine u rfl rfl (r_buildSlice (e := 30) (sz := 16) (zs := zx) ([exX e, exX f]) rfl rfl (by kernel_rfl) (by kernel_rfl) rfl rfl rfl rfl) ?_; refine gc (hH) [2,20,16] ?_; refine gc (hR) [15,17,2,20,16] ?_; refine gc (hR2) [15,17,0,9,6,2003,2002,22,4,3,2,8,34,5,20,16] ?_; refine gc (hT) [2,14,14,1,1,0,9,7,2003,2002,6,5,4,3,2,5,20,16] ?_; refine gc (hT2) [2,14,14,1,1,0,9,9,2003,2002,8,7,6,5,4,3,2,31,5,2] ?_; refine u rfl rfl (r_neI rfl rfl rfl rfl) ?_; refine gg [2,3,3,16,0,9,10,2003,2002,38,8,7,6,5,4,3,2,32,5,2,26,2,2,26,17,2,2,26,2,2,26,17,16,2] ?_; refine gc (kWakes7) [16,1,0,9,7,2003,2002,7,5,4,3,2,33] ?_; exact ⟨.inl rfl, _, rfl, .refl _, trivial⟩
    rw [Bool.not_eq_true] at hm2; rw [hm2] at hR2; refine gg [38,5,22,2002,22,2003,1,0,9,5,2003,2002,4,3,2,31,5,20,16,20,16] ?_; refine u rfl rfl (r_buildSlice (e := 30) (sz := 16) (zs := zx) ([exX e, exX f]) rfl rfl (by kernel_rfl) (by kernel_rfl) rfl rfl rfl rfl) ?_; refine gc (hH) [2,20,16] ?_; refine gc (hR) [15,17,2,20,16] ?_; refine gc (hR2) [15,17,0,9,6,2003,2002,22,4,3,2,32,5,1,0,9,5,2003,2002,4,3,2,33] ?_; exact ⟨.inl rfl, _, rfl, .refl _, trivial⟩
  rw [Bool.not_eq_true] at hm; rw [hm] at hR; refine gg [38,5,22,2002,22,2003,1,0,9,5,2003,2002,4,3,2,31,5,20,16,20,16] ?_; refine u rfl rfl (r_buildSlice (e := 30) (sz := 16) (zs := zx) ([exX e, exX f]) rfl rfl (by kernel_rfl) (by kernel_rfl) rfl rfl rfl rfl) ?_; refine gc (hH) [2,20,16] ?_; refine gc (hR) [15,17,2,39,3,16,0,9,6,2003,2002,22,4,3,2,32,5,1,0,9,5,2003,2002,4,3,2,33] ?_; exact ⟨.inl rfl, _, rfl, .refl _, trivial⟩

end Go.Proofs.YtlagglkpbnbmeaaGreatDoor
