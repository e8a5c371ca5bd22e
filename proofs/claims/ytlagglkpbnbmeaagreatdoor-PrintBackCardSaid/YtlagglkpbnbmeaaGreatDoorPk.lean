/- The walk of the law PrintBack. -/
import Derived.Test.YtlagglkpbnbmeaaGreatDoorShC
import Derived.Test.YtlagglkpbnbmeaaGreatDoorRU
import Derived.Test.YtlagglkpbnbmeaaGreatDoorRD
namespace Go.Proofs.YtlagglkpbnbmeaaGreatDoor
open Go Go.RowKit
set_option maxRecDepth 100000
set_option maxHeartbeats 4000000
set_option linter.unusedVariables false
set_option linter.unusedSimpArgs false

theorem exsD_one (e : Ex) : exsD [e] = [exX e] := by rw [exsD_map]; rfl
theorem lBack (e : Ex) (hL : ExL e) (hN : ExN e) : Con Tryz.prog 6 [.agg (exX e)] [] (.c (.lit (.bool true))) [] := by
  have hH := tHeavy [e] (by simp) (fun x hx => by simp at hx; rw [hx]; exact hL); rw [exsD_one, hLst, hLst] at hH
  by_cases hb : 400 < hEx e 0
  · rw [decide_eq_true hb] at hH; refine gg [38,5,22,2001,1,0,9,3,2001,2,1,31,5,20,16] ?_; refine u rfl rfl (r_buildSlice (e := 30) (sz := 16) (zs := zx) ([exX e]) rfl rfl (by kernel_rfl) (by kernel_rfl) rfl rfl rfl rfl) ?_; refine gc (hH) [0,9,4,2001,10,2,1,32,5,1,0,9,3,2001,2,1,33] ?_; exact ⟨.inl rfl, _, rfl, .refl _, trivial⟩
  rw [decide_eq_false hb] at hH; obtain ⟨hW, hg⟩ := light hL hN hb; have hR := rRight hW; rw [right_check hW] at hR; have hT := tText (exK_of hW) hN (fun hm => (hg hm).2)
  by_cases hm : mCheck e = true
  · rw [hm] at hR
    by_cases hs : (xEx e).length ≤ 16384
    · obtain ⟨t1, t2⟩ := tx_ok hm hs; rw [t1, t2] at hT; obtain ⟨f, hf, hf2⟩ := round (rex_of hN hm) hs; have hP := eParse (xEx e) (by omega) hf; have hS := tEx (n := 100000) (by decide) (exB_of hW hm) f; rw [Ex.same_nude _ _ hf2] at hS; refine gg [38,5,22,2001,1,0,9,3,2001,2,1,31,5,20,16] ?_; refine u rfl rfl (r_buildSlice (e := 30) (sz := 16) (zs := zx) ([exX e]) rfl rfl (by kernel_rfl) (by kernel_rfl) rfl rfl rfl rfl) ?_; refine gc (hH) [0,9,4,2001,10,2,1,8,34,5,20,16] ?_; refine gc (hT) [2,14,14,1,1,0,9,5,2001,4,3,2,1,31,5,2] ?_; refine u rfl rfl (r_neI rfl rfl rfl rfl) ?_; refine gg [0,9,6,2001,17,4,3,2,1,8,34,5,2] ?_; refine u rfl rfl (r_bytesOf rfl rfl (by kernel_rfl) (by kernel_rfl) rfl) ?_; refine gc (hP) [2,14,14,14,23,2005,10,1,1,0,9,8,2005,2001,7,6,5,3,2,1,5,2,26,2,2,26,16,2,20,16,20,16] ?_; refine gc (hS) [16,2,2,30] ?_; refine u rfl rfl ((r_leI rfl rfl rfl rfl).cast (cast_b (b' := true) (by exact decide_eq_true (by omega)))) ?_
      refine gg [16,2] ?_; refine gc (kWakes7) [16,1,0,9,1,2,33] ?_; exact ⟨.inl rfl, _, rfl, .refl _, trivial⟩
    obtain ⟨t1, t2⟩ := tx_big hm hs; rw [t1, t2] at hT; refine gg [38,5,22,2001,1,0,9,3,2001,2,1,31,5,20,16] ?_; refine u rfl rfl (r_buildSlice (e := 30) (sz := 16) (zs := zx) ([exX e]) rfl rfl (by kernel_rfl) (by kernel_rfl) rfl rfl rfl rfl) ?_; refine gc (hH) [0,9,4,2001,10,2,1,8,34,5,20,16] ?_; refine gc (hT) [2,14,14,1,1,0,9,5,2001,4,3,2,1,31,5,2] ?_; refine u rfl rfl (r_neI rfl rfl rfl rfl) ?_; refine gg [0,9,6,2001,17,4,3,2,1,32,5,2] ?_; refine u rfl rfl ((r_eqS rfl rfl rfl rfl).cast (cast_b (b' := true) (by kernel_rfl))) ?_; refine gg [2,2,26,20,16] ?_; refine gc (hR) [15] ?_; refine u rfl rfl ((r_eqB rfl rfl (by kernel_rfl) rfl rfl).cast (cast_b (b' := true) (by kernel_rfl))) ?_; refine gg [16,2] ?_; refine gc (kWakes7) [16,1,0,9,4,2001,3,2,1,33] ?_; exact ⟨.inl rfl, _, rfl, .refl _, trivial⟩
  obtain ⟨t1, t2⟩ := tx_no hm; rw [t1, t2] at hT; rw [Bool.not_eq_true] at hm; rw [hm] at hR; refine gg [38,5,22,2001,1,0,9,3,2001,2,1,31,5,20,16] ?_; refine u rfl rfl (r_buildSlice (e := 30) (sz := 16) (zs := zx) ([exX e]) rfl rfl (by kernel_rfl) (by kernel_rfl) rfl rfl rfl rfl) ?_; refine gc (hH) [0,9,4,2001,10,2,1,8,34,5,20,16] ?_; refine gc (hT) [2,14,14,1,1,0,9,5,2001,4,3,2,1,31,5,2] ?_; refine u rfl rfl (r_neI rfl rfl rfl rfl) ?_; refine gg [0,9,6,2001,17,4,3,2,1,32,5,2] ?_; refine u rfl rfl ((r_eqS rfl rfl rfl rfl).cast (cast_b (b' := true) (by kernel_rfl))) ?_; refine gg [2,2,26,20,16] ?_; refine gc (hR) [15] ?_; refine u rfl rfl ((r_eqB rfl rfl (by kernel_rfl) rfl rfl).cast (cast_b (b' := true) (by kernel_rfl))) ?_; refine gg [16,2] ?_; refine gc (kWakes7) [16,1,0,9,4,2001,3,2,1,33] ?_; exact ⟨.inl rfl, _, rfl, .refl _, trivial⟩

end Go.Proofs.YtlagglkpbnbmeaaGreatDoor
