/- The walk of the law PrintTwice. -/
import Derived.Test.YtlagglkpbnbmeaaGreatDoorShC
import Derived.Test.YtlagglkpbnbmeaaGreatDoorRU
import Derived.Test.YtlagglkpbnbmeaaGreatDoorWT
namespace Go.Proofs.YtlagglkpbnbmeaaGreatDoor
open Go Go.RowKit
set_option maxRecDepth 100000
set_option maxHeartbeats 4000000
set_option linter.unusedVariables false
set_option linter.unusedSimpArgs false

theorem lTwice (bs : List UInt8) (hb : bs.length ≤ 9223372036854775807) : Con Tryz.prog 7 [.c (.sl 1 (bcells bs))] [] (.c (.lit (.bool true))) [] := by
  have hbl : (bcells bs).length = bs.length := by simp [bcells]
  by_cases hl : 2000 < bs.length
  · skip
    refine gg [38,5,1,0,9,2,2,0,31,5,2,18] ?_; refine u rfl rfl ((r_gtI rfl rfl rfl rfl).cast (cast_b (b' := true) (by exact decide_eq_true (by omega)))) ?_; refine gg [0,9,3,15,2,0,32,5,1,0,9,2,2,0,33] ?_; exact ⟨.inl rfl, _, rfl, .refl _, trivial⟩
  rcases hM : mParse bs with ⟨x, y⟩ | e
  · obtain rfl := parse_err hM; have hP := eParse bs (by omega) hM; refine gg [38,5,1,0,9,2,2,0,31,5,2,18] ?_; refine u rfl rfl ((r_gtI rfl rfl rfl rfl).cast (cast_b (b' := false) (by exact decide_eq_false (by omega)))) ?_; refine gg [0,9,3,15,2,0,8,34,5,2] ?_; refine gc (hP) [2,14,14,14,23,2003,10,1,1,0,9,4,2003,5,3,2,31,5,2] ?_; refine u rfl rfl (r_neI rfl rfl rfl rfl) ?_; refine gg [0,9,4,2003,23,3,2,32,5] ?_; refine gc (kWakes7) [1,0,9,3,2003,3,2,33] ?_; exact ⟨.inl rfl, _, rfl, .refl _, trivial⟩
  obtain ⟨hR, hK, hlen⟩ := parse_w (by omega) hM; have hP := eParse bs (by omega) hM; have hm := check_of hR; have hT := tText hK (rex_N hR) (fun _ => by omega)
  by_cases hs : (xEx e).length ≤ 16384
  · obtain ⟨t1, t2⟩ := tx_ok hm hs; rw [t1, t2] at hT; obtain ⟨g, hg, hg2⟩ := round hR hs; obtain ⟨hR2, hK2, _⟩ := parse_w hs hg; have hx : xEx g = xEx e := by rw [← xEx_nude g, hg2, xEx_nude]
    have hT2 := tText hK2 (rex_N hR2) (fun _ => by rw [hx]; omega); obtain ⟨t3, t4⟩ := tx_ok (check_of hR2) (by rw [hx]; exact hs); rw [t3, t4, hx] at hT2; have hP2 := eParse (xEx e) (by omega) hg; have hS := tEx (n := 100000) (by decide) (exB_k hK hm) g; rw [Ex.same_nude _ _ hg2] at hS; refine gg [38,5,1,0,9,2,2,0,31,5,2,18] ?_; refine u rfl rfl ((r_gtI rfl rfl rfl rfl).cast (cast_b (b' := false) (by exact decide_eq_false (by omega)))) ?_; refine gg [0,9,3,15,2,0,8,34,5,2] ?_; refine gc (hP) [2,14,14,14,23,2003,10,1,1,0,9,4,2003,5,3,2,31,5,2] ?_; refine u rfl rfl (r_neI rfl rfl rfl rfl) ?_; refine gg [0,9,4,2003,23,3,2,8,34,5,20,16] ?_; refine gc (hT) [2,14,14,1,1,0,9,5,2003,7,6,3,2,31,5,2,26,0,9,6,2003,31,7,6,3,2,8,34,5,2] ?_; refine u rfl rfl (r_bytesOf rfl rfl (by kernel_rfl) (by kernel_rfl) rfl) ?_; refine gc (hP2) [2,14,14,14,23,2008,10,1,1,0,9,8,2008,2003,10,8,7,6,3,2,5,20,16] ?_; refine gc (hT2) [2,14,14,1,1,0,9,10,2008,2003,12,11,10,8,7,6,3,2,5,2,26,2,2,26,16,2,2,26,16,2,2,2] ?_
    refine u rfl rfl ((r_eqS rfl rfl rfl rfl).cast (cast_b (b' := true) (by exact beq_self_eq_true _))) ?_; refine gg [16,2,20,16,20,16] ?_; refine gc (hS) [16,2] ?_; refine gc (kWakes7) [16,1,0,9,1,2,33] ?_; exact ⟨.inl rfl, _, rfl, .refl _, trivial⟩
  obtain ⟨t1, t2⟩ := tx_big hm hs; rw [t1, t2] at hT; refine gg [38,5,1,0,9,2,2,0,31,5,2,18] ?_; refine u rfl rfl ((r_gtI rfl rfl rfl rfl).cast (cast_b (b' := false) (by exact decide_eq_false (by omega)))) ?_; refine gg [0,9,3,15,2,0,8,34,5,2] ?_; refine gc (hP) [2,14,14,14,23,2003,10,1,1,0,9,4,2003,5,3,2,31,5,2] ?_; refine u rfl rfl (r_neI rfl rfl rfl rfl) ?_; refine gg [0,9,4,2003,23,3,2,8,34,5,20,16] ?_; refine gc (hT) [2,14,14,1,1,0,9,5,2003,7,6,3,2,31,5,2,26,0,9,6,2003,31,7,6,3,2,32,5,2] ?_; refine u rfl rfl ((r_eqS rfl rfl rfl rfl).cast (cast_b (b' := true) (by kernel_rfl))) ?_; refine gg [2] ?_; refine gc (kWakes7) [16,1,0,9,5,2003,7,6,3,2,33] ?_; exact ⟨.inl rfl, _, rfl, .refl _, trivial⟩

end Go.Proofs.YtlagglkpbnbmeaaGreatDoor
