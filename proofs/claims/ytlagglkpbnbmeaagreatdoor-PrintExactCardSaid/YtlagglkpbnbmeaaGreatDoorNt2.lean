/- Texts of types: the program's and the page's. -/
import Derived.Test.YtlagglkpbnbmeaaGreatDoorShC
import Derived.Test.YtlagglkpbnbmeaaGreatDoorShZ
import Derived.Test.YtlagglkpbnbmeaaGreatDoorPX
import Derived.Test.YtlagglkpbnbmeaaGreatDoorNt1
import Derived.Test.YtlagglkpbnbmeaaGreatDoorSH
import Derived.Test.YtlagglkpbnbmeaaGreatDoorTX
import Derived.Test.YtlagglkpbnbmeaaGreatDoorWX
namespace Go.Proofs.YtlagglkpbnbmeaaGreatDoor
open Go Go.RowKit
set_option linter.unusedSimpArgs false
set_option maxRecDepth 100000
set_option linter.unusedVariables false

theorem args_one {args : Array Value} {v : Value} (hsz : args.size = 1) (hv : args.getD 0 undef = v) : args = #[v] := by
  apply Array.ext
  · simpa using hsz
  intro i h1 h2; have : i = 0 := by simp at h2; omega
  subst this; simp only [Array.getD_eq_getD_getElem?, Array.getElem?_eq_getElem h1, Option.getD_some] at hv; rw [hv]; rfl
theorem kWordNum (n : Int) (h1 : 0 ≤ n) (h2 : n ≤ 1048576) : Con Tryz.prog 56 [.c (.lit (.int .i64 n))] [] (.c (.lit (str (mNum n)))) [] := by
  refine con_below (by simp [Flat]) trivial (by simp) fun S w args B hsz harg hS htt hB => ?_
  rw [args_one hsz (lit_val (ρ := fun _ => 0) (harg 0 _ rfl))]; refine (wordNum_any n (by omega) (by omega) w htt.tab).mono ?_; rintro e w' ⟨rfl, hbl⟩; exact ⟨_, rfl, hbl, fun _ _ _ => .lit _ rfl⟩
theorem kRefNum (n : Int) (h1 : 0 ≤ n) (h2 : n ≤ 1048576) : Con Tryz.prog 37 [.c (.lit (.int .i64 n))] [] (.c (.lit (str (mNum n)))) [] := by
  refine con_below (by simp [Flat]) trivial (by simp) fun S w args B hsz harg hS htt hB => ?_
  rw [args_one hsz (lit_val (ρ := fun _ => 0) (harg 0 _ rfl))]; refine (refNum_any n (by omega) (by omega) w).mono ?_; rintro e w' ⟨rfl, rfl⟩; exact ⟨_, rfl, Below.refl _ _, fun _ _ _ => .lit _ rfl⟩

theorem kidsE {t : Ty} (h : (tysD t.kids).length = 0) : t.kids.isEmpty = true := by
  rw [tysD_len] at h; rw [List.eq_nil_of_length_eq_zero h]; rfl
theorem kidsN {t : Ty} (h : 0 < (tysD t.kids).length) : t.kids.isEmpty = false := by
  rw [tysD_len] at h
  cases hk : t.kids with
  | nil => rw [hk] at h; cases h
  | cons x r => rfl
abbrev byK : TypeId := 5

theorem kInnerOf (t : Ty) (h : RightTy t) (hs : t.size ≤ 100000) (hc : Con Tryz.prog 105 [.agg (tyE t)] [] (.c (.lit (str (mTxt t)))) []) : Con Tryz.prog 134 [.agg (tyE t)] [] (.c (.lit (str (mKid t)))) [] := by
  have hl := tysD_len t.kids; have hb := mTxt_len h; refine gg [38,5,22,2001,1,0,9,3,2001,2,1,31,5,6,2,1,7,18] ?_; refine bG ?_ ?_
  · intro h6; refine gg [0,9,4,2001,6,2,1,32,5,20,3] ?_; refine uC (hc) ?_; refine u rfl rfl (r_catS rfl rfl rfl rfl (by (try simp only [List.length_append, List.length_cons, List.length_nil, bcells_len]); omega)) ?_; refine u rfl rfl (r_catS rfl rfl rfl rfl (by (try simp only [List.length_append, List.length_cons, List.length_nil, bcells_len]); omega)) ?_
    refine gg [1,0,9,3,2001,2,1,33] ?_; refine ⟨.inl rfl, _, rfl, .ofS ?_, trivial⟩; rw [mKid_eq, kidsN (by omega)]
    rfl
  intro h6; refine gg [0,9,4,2001,6,2,1,8,34,5,20,3] ?_; refine gc (hc) [1,0,9,1,2,33] ?_; refine ⟨.inl rfl, _, rfl, .ofS ?_, trivial⟩; rw [mKid_eq, kidsE (by omega)]
  rfl

theorem kRefText : ∀ (m : Nat) (t : Ty), t.size ≤ m → m ≤ 100000 → RightTy t → Con Tryz.prog 105 [.agg (tyE t)] [] (.c (.lit (str (mTxt t)))) []
  | 0, t, h, _, _ => absurd t.size_pos (by omega)
  | m + 1, t, hm, hm2, h => by
    cases h with
    | int  =>
      refine gg [38,5,22,2001,1,0,9,3,2001,2,1,31,5,6,0,1,7,0,9,4,2001,4,2,1,35,5,26,1,0,9,5,2001,5,4,2,1,32,5,1,0,9,3,2001,2,1,33] ?_; exact ⟨.inl rfl, _, rfl, .ofS (by rw [mTxt_1]; rfl), trivial⟩
    | bool  =>
      refine gg [38,5,22,2001,1,0,9,3,2001,2,1,31,5,6,0,1,7,0,9,4,2001,4,2,1,35,5,26,1,0,9,5,2001,5,4,2,1,8,5,26,1,0,9,5,2001,7,4,2,1,32,5,1,0,9,3,2001,2,1,33] ?_; exact ⟨.inl rfl, _, rfl, .ofS (by rw [mTxt_2]; rfl), trivial⟩
    | str  =>
      refine gg [38,5,22,2001,1,0,9,3,2001,2,1,31,5,6,0,1,7,0,9,4,2001,4,2,1,35,5,26,1,0,9,5,2001,5,4,2,1,8,5,26,1,0,9,5,2001,7,4,2,1,8,5,26,1,0,9,5,2001,9,4,2,1,32,5,1,0,9,3,2001,2,1,33] ?_; exact ⟨.inl rfl, _, rfl, .ofS (by rw [mTxt_3]; rfl), trivial⟩
    | unit  =>
      refine gg [38,5,22,2001,1,0,9,3,2001,2,1,31,5,6,0,1,7,0,9,4,2001,4,2,1,35,5,26,1,0,9,5,2001,5,4,2,1,8,5,26,1,0,9,5,2001,7,4,2,1,8,5,26,1,0,9,5,2001,9,4,2,1,8,5,26,1,0,9,5,2001,11,4,2,1,32,5,1,0,9,3,2001,2,1,33] ?_; exact ⟨.inl rfl, _, rfl, .ofS (by rw [mTxt_4]; rfl), trivial⟩
    | dyn  =>
      refine gg [38,5,22,2001,1,0,9,3,2001,2,1,31,5,6,0,1,7,0,9,4,2001,4,2,1,35,5,26,1,0,9,5,2001,5,4,2,1,8,5,26,1,0,9,5,2001,7,4,2,1,8,5,26,1,0,9,5,2001,9,4,2,1,8,5,26,1,0,9,5,2001,11,4,2,1,8,5,26,1,0,9,5,2001,13,4,2,1,32,5,1,0,9,3,2001,2,1,33] ?_; exact ⟨.inl rfl, _, rfl, .ofS (by rw [mTxt_5]), trivial⟩
    | var n h1 h2 =>
      refine gg [38,5,22,2001,1,0,9,3,2001,2,1,31,5,6,0,1,7,0,9,4,2001,4,2,1,35,5,26,1,0,9,5,2001,5,4,2,1,8,5,26,1,0,9,5,2001,7,4,2,1,8,5,26,1,0,9,5,2001,9,4,2,1,8,5,26,1,0,9,5,2001,11,4,2,1,8,5,26,1,0,9,5,2001,13,4,2,1,8,5,26,1,0,9,5,2001,15,4,2,1,32,5,6,1,1,7] ?_; refine uC (kRefNum n h1 h2) ?_; refine u rfl rfl (r_catS rfl rfl rfl rfl (by have := mNum_small h1 h2; simp only [List.length_cons, List.length_nil]; omega)) ?_; refine gg [1,0,9,3,2001,2,1,33] ?_; exact ⟨.inl rfl, _, rfl, .ofS (by rw [mTxt_var]; rfl), trivial⟩
    | pair a b ha hb =>
      have sa : a.size ≤ m := by simp only [Ty.size, Ty.sizes] at hm; omega
      have sb : b.size ≤ m := by simp only [Ty.size, Ty.sizes] at hm; omega
      have ca := kInnerOf a ha (by omega) (kRefText m a sa (by omega) ha); have cb := kInnerOf b hb (by omega) (kRefText m b sb (by omega) hb); have la := mKid_len ha; have lb := mKid_len hb; refine gg [38,5,22,2001,1,0,9,3,2001,2,1,31,5,6,0,1,7,0,9,4,2001,4,2,1,35,5,26,1,0,9,5,2001,5,4,2,1,8,5,26,1,0,9,5,2001,7,4,2,1,8,5,26,1,0,9,5,2001,9,4,2,1,8,5,26,1,0,9,5,2001,11,4,2,1,8,5,26,1,0,9,5,2001,13,4,2,1,8,5,26,1,0,9,5,2001,15,4,2,1,8,5,26,1,0,9,5,2001,21,4,2,1,32,5,6,2,1,7] ?_; refine u rfl rfl (r_indexAddr (e := 26) (sz := 3) rfl rfl (by kernel_rfl) rfl rfl (Int.le_refl 0) (tysD_at (l := [a, b]) (i := 0) rfl)) ?_; refine gg [21,3] ?_; refine uC (ca) ?_; refine u rfl rfl (r_catS rfl rfl rfl rfl (by (try simp only [List.length_append, List.length_cons, List.length_nil, bcells_len]); omega)) ?_
      refine gg [6,2,1,7] ?_; refine u rfl rfl (r_indexAddr (e := 26) (sz := 3) rfl rfl (by kernel_rfl) rfl rfl (by decide) (tysD_at (l := [a, b]) (i := 1) rfl)) ?_; refine gg [21,3] ?_; refine uC (cb) ?_; refine u rfl rfl (r_catS rfl rfl rfl rfl (by (try simp only [List.length_append, List.length_cons, List.length_nil, bcells_len]); omega)) ?_; refine gg [1,4,9,3,2001,2,1,33] ?_; exact ⟨.inl rfl, _, rfl, .ofS (by rw [mTxt_pair]), trivial⟩
    | list a ha =>
      have sa : a.size ≤ m := by simp only [Ty.size, Ty.sizes] at hm; omega
      have ca := kInnerOf a ha (by omega) (kRefText m a sa (by omega) ha); have la := mKid_len ha; refine gg [38,5,22,2001,1,0,9,3,2001,2,1,31,5,6,0,1,7,0,9,4,2001,4,2,1,35,5,26,1,0,9,5,2001,5,4,2,1,8,5,26,1,0,9,5,2001,7,4,2,1,8,5,26,1,0,9,5,2001,9,4,2,1,8,5,26,1,0,9,5,2001,11,4,2,1,8,5,26,1,0,9,5,2001,13,4,2,1,8,5,26,1,0,9,5,2001,15,4,2,1,8,5,26,1,0,9,5,2001,21,4,2,1,8,5,26,1,0,9,4,2001,35,2,1,32,5,6,2,1,7] ?_; refine u rfl rfl (r_indexAddr (e := 26) (sz := 3) rfl rfl (by kernel_rfl) rfl rfl (Int.le_refl 0) (tysD_at (l := [a]) (i := 0) rfl)) ?_; refine gg [21,3] ?_; refine uC (ca) ?_; refine u rfl rfl (r_catS rfl rfl rfl rfl (by (try simp only [List.length_append, List.length_cons, List.length_nil, bcells_len]); omega)) ?_
      refine gg [1,0,9,3,2001,2,1,33] ?_; exact ⟨.inl rfl, _, rfl, .ofS (by rw [mTxt_list]), trivial⟩
    | func a b ha hb =>
      have sa : a.size ≤ m := by simp only [Ty.size, Ty.sizes] at hm; omega
      have sb : b.size ≤ m := by simp only [Ty.size, Ty.sizes] at hm; omega
      have ca := kInnerOf a ha (by omega) (kRefText m a sa (by omega) ha); have cb := kInnerOf b hb (by omega) (kRefText m b sb (by omega) hb); have la := mKid_len ha; have lb := mKid_len hb; refine gg [38,5,22,2001,1,0,9,3,2001,2,1,31,5,6,0,1,7,0,9,4,2001,4,2,1,35,5,26,1,0,9,5,2001,5,4,2,1,8,5,26,1,0,9,5,2001,7,4,2,1,8,5,26,1,0,9,5,2001,9,4,2,1,8,5,26,1,0,9,5,2001,11,4,2,1,8,5,26,1,0,9,5,2001,13,4,2,1,8,5,26,1,0,9,5,2001,15,4,2,1,8,5,26,1,0,9,5,2001,21,4,2,1,8,5,26,1,0,9,4,2001,35,2,1,8,34,5,6,2,1,7] ?_; refine u rfl rfl (r_indexAddr (e := 26) (sz := 3) rfl rfl (by kernel_rfl) rfl rfl (Int.le_refl 0) (tysD_at (l := [a, b]) (i := 0) rfl)) ?_; refine gg [21,3] ?_; refine uC (ca) ?_; refine u rfl rfl (r_catS rfl rfl rfl rfl (by (try simp only [List.length_append, List.length_cons, List.length_nil, bcells_len]); omega)) ?_
      refine gg [6,2,1,7] ?_; refine u rfl rfl (r_indexAddr (e := 26) (sz := 3) rfl rfl (by kernel_rfl) rfl rfl (by decide) (tysD_at (l := [a, b]) (i := 1) rfl)) ?_; refine gg [21,3] ?_; refine uC (cb) ?_; refine u rfl rfl (r_catS rfl rfl rfl rfl (by (try simp only [List.length_append, List.length_cons, List.length_nil, bcells_len]); omega)) ?_; refine gg [1,4,9,1,2,33] ?_; exact ⟨.inl rfl, _, rfl, .ofS (by rw [mTxt_fun]), trivial⟩

theorem kKidOf (t : Ty) (h : RightTy t) (hc : ∀ els : List (List D), els.length + 30 * t.size ≤ 1000000000 → Con Tryz.prog 147 [.own byK 1 (els), .agg (tyE t)] [] (.own byK 1 (els ++ bcells (mTxt t))) []) (els : List (List D)) (hs : els.length + 30 * t.size + 1 ≤ 1000000000) : Con Tryz.prog 157 [.own byK 1 (els), .agg (tyE t)] [] (.own byK 1 (els ++ bcells (mKid t))) [] := by
  have hl := tysD_len t.kids; have hb := mTxt_len h; refine gg [38,5,22,2003,1,0,9,4,2003,4,3,0,31,5,6,2,1,7,18] ?_; refine bE ?_ ?_
  · intro h8; refine gg [0,9,5,2003,8,4,3,0,32,5,29,20,3] ?_; refine gc (hc els (by omega)) [28,0,9,3,2003,4,3,33] ?_; refine ⟨.inl rfl, _, rfl, .of ?_, trivial⟩; rw [mKid_eq, kidsE (by omega)]
    simp [bcells]
  intro h8; refine gg [0,9,5,2003,8,4,3,0,8,34,5,29] ?_; refine u rfl rfl (r_buildSlice (e := 5) (sz := 1) (zs := [.int .u8 0]) ([[.lit (.int .u8 40)]]) rfl rfl (by kernel_rfl) (by kernel_rfl) rfl rfl rfl rfl) ?_; refine u rfl rfl (r_append (e := 5) (sz := 1) (b := 1) rfl rfl (by kernel_rfl) rfl rfl (by (try simp only [List.length_append, List.length_cons, List.length_nil, bcells_len]); omega) (by (try simp only [List.length_append, List.length_cons, List.length_nil, bcells_len]); omega)) ?_
  refine gg [20,3] ?_; refine uC (hc (els ++ [[.lit (.int .u8 40)]]) (by (try simp only [List.length_append, List.length_cons, List.length_nil, bcells_len]); omega)) ?_; refine u rfl rfl (r_buildSlice (e := 5) (sz := 1) (zs := [.int .u8 0]) ([[.lit (.int .u8 41)]]) rfl rfl (by kernel_rfl) (by kernel_rfl) rfl rfl rfl rfl) ?_; refine u rfl rfl (r_append (e := 5) (sz := 1) (b := 1) rfl rfl (by kernel_rfl) rfl rfl (by (try simp only [List.length_append, List.length_cons, List.length_nil, bcells_len]); omega) (by (try simp only [List.length_append, List.length_cons, List.length_nil, bcells_len]); omega)) ?_
  refine gg [28,4,9,1,4,33] ?_; refine ⟨.inl rfl, _, rfl, .of ?_, trivial⟩; rw [mKid_eq, kidsN (by omega)]
  simp [bcells]

theorem kPut : ∀ (m : Nat) (t : Ty) (els : List (List D)), t.size ≤ m → RightTy t → els.length + 30 * t.size ≤ 1000000000 → Con Tryz.prog 147 [.own byK 1 (els), .agg (tyE t)] [] (.own byK 1 (els ++ bcells (mTxt t))) []
  | 0, t, _, h, _, _ => absurd t.size_pos (by omega)
  | m + 1, t, els, hm, h, hs => by
    cases h with
    | int  =>
      have hs2 : els.length + 30 ≤ 1000000000 := by simp only [Ty.size, Ty.sizes] at hs; omega
      refine gg [38,5,22,2003,1,0,9,4,2003,4,3,0,31,5,6,0,1,7,0,9,5,2003,6,4,3,0,35,5,26,1,0,9,6,2003,7,6,4,3,0,32,5,29] ?_; refine u rfl rfl (r_appendS (e := 5) rfl rfl (by kernel_rfl) (by kernel_rfl) (by kernel_rfl) rfl rfl (by (try simp only [List.length_append, List.length_cons, List.length_nil, bcells_len]); omega)) ?_; refine gg [28,0,9,3,2003,4,3,33] ?_; exact ⟨.inl rfl, _, rfl, .of (by rw [mTxt_1]; rfl), trivial⟩
    | bool  =>
      have hs2 : els.length + 30 ≤ 1000000000 := by simp only [Ty.size, Ty.sizes] at hs; omega
      refine gg [38,5,22,2003,1,0,9,4,2003,4,3,0,31,5,6,0,1,7,0,9,5,2003,6,4,3,0,35,5,26,1,0,9,6,2003,7,6,4,3,0,8,5,26,1,0,9,6,2003,11,6,4,3,0,32,5,29] ?_; refine u rfl rfl (r_appendS (e := 5) rfl rfl (by kernel_rfl) (by kernel_rfl) (by kernel_rfl) rfl rfl (by (try simp only [List.length_append, List.length_cons, List.length_nil, bcells_len]); omega)) ?_; refine gg [28,0,9,3,2003,4,3,33] ?_; exact ⟨.inl rfl, _, rfl, .of (by rw [mTxt_2]; rfl), trivial⟩
    | str  =>
      have hs2 : els.length + 30 ≤ 1000000000 := by simp only [Ty.size, Ty.sizes] at hs; omega
      refine gg [38,5,22,2003,1,0,9,4,2003,4,3,0,31,5,6,0,1,7,0,9,5,2003,6,4,3,0,35,5,26,1,0,9,6,2003,7,6,4,3,0,8,5,26,1,0,9,6,2003,11,6,4,3,0,8,5,26,1,0,9,6,2003,15,6,4,3,0,32,5,29] ?_; refine u rfl rfl (r_appendS (e := 5) rfl rfl (by kernel_rfl) (by kernel_rfl) (by kernel_rfl) rfl rfl (by (try simp only [List.length_append, List.length_cons, List.length_nil, bcells_len]); omega)) ?_; refine gg [28,0,9,3,2003,4,3,33] ?_; exact ⟨.inl rfl, _, rfl, .of (by rw [mTxt_3]; rfl), trivial⟩
    | unit  =>
      have hs2 : els.length + 30 ≤ 1000000000 := by simp only [Ty.size, Ty.sizes] at hs; omega
      refine gg [38,5,22,2003,1,0,9,4,2003,4,3,0,31,5,6,0,1,7,0,9,5,2003,6,4,3,0,35,5,26,1,0,9,6,2003,7,6,4,3,0,8,5,26,1,0,9,6,2003,11,6,4,3,0,8,5,26,1,0,9,6,2003,15,6,4,3,0,8,5,26,1,0,9,6,2003,19,6,4,3,0,32,5,29] ?_; refine u rfl rfl (r_appendS (e := 5) rfl rfl (by kernel_rfl) (by kernel_rfl) (by kernel_rfl) rfl rfl (by (try simp only [List.length_append, List.length_cons, List.length_nil, bcells_len]); omega)) ?_; refine gg [28,0,9,3,2003,4,3,33] ?_; exact ⟨.inl rfl, _, rfl, .of (by rw [mTxt_4]; rfl), trivial⟩
    | dyn  =>
      have hs2 : els.length + 30 ≤ 1000000000 := by simp only [Ty.size, Ty.sizes] at hs; omega
      refine gg [38,5,22,2003,1,0,9,4,2003,4,3,0,31,5,6,0,1,7,0,9,5,2003,6,4,3,0,35,5,26,1,0,9,6,2003,7,6,4,3,0,8,5,26,1,0,9,6,2003,11,6,4,3,0,8,5,26,1,0,9,6,2003,15,6,4,3,0,8,5,26,1,0,9,6,2003,19,6,4,3,0,8,5,26,1,0,9,6,2003,23,6,4,3,0,32,5,29] ?_; refine u rfl rfl (r_buildSlice (e := 5) (sz := 1) (zs := [.int .u8 0]) ([[.lit (.int .u8 63)]]) rfl rfl (by kernel_rfl) (by kernel_rfl) rfl rfl rfl rfl) ?_; refine u rfl rfl (r_append (e := 5) (sz := 1) (b := 1) rfl rfl (by kernel_rfl) rfl rfl (by (try simp only [List.length_append, List.length_cons, List.length_nil, bcells_len]); omega) (by (try simp only [List.length_append, List.length_cons, List.length_nil, bcells_len]); omega)) ?_
      refine gg [28,0,9,3,2003,4,3,33] ?_; exact ⟨.inl rfl, _, rfl, .of (by rw [mTxt_5]; rfl), trivial⟩
    | var n h1 h2 =>
      have hs2 : els.length + 30 ≤ 1000000000 := by simp only [Ty.size, Ty.sizes] at hs; omega
      have ln := mNum_small h1 h2; refine gg [38,5,22,2003,1,0,9,4,2003,4,3,0,31,5,6,0,1,7,0,9,5,2003,6,4,3,0,35,5,26,1,0,9,6,2003,7,6,4,3,0,8,5,26,1,0,9,6,2003,11,6,4,3,0,8,5,26,1,0,9,6,2003,15,6,4,3,0,8,5,26,1,0,9,6,2003,19,6,4,3,0,8,5,26,1,0,9,6,2003,23,6,4,3,0,8,5,26,1,0,9,6,2003,28,6,4,3,0,32,5,29] ?_; refine u rfl rfl (r_buildSlice (e := 5) (sz := 1) (zs := [.int .u8 0]) ([[.lit (.int .u8 39)]]) rfl rfl (by kernel_rfl) (by kernel_rfl) rfl rfl rfl rfl) ?_; refine u rfl rfl (r_append (e := 5) (sz := 1) (b := 1) rfl rfl (by kernel_rfl) rfl rfl (by (try simp only [List.length_append, List.length_cons, List.length_nil, bcells_len]); omega) (by (try simp only [List.length_append, List.length_cons, List.length_nil, bcells_len]); omega)) ?_
      refine gg [6,1,1,7] ?_; refine uC (kWordNum n h1 h2) ?_; refine u rfl rfl (r_appendS (e := 5) rfl rfl (by kernel_rfl) (by kernel_rfl) (by kernel_rfl) rfl rfl (by (try simp only [List.length_append, List.length_cons, List.length_nil, bcells_len]); omega)) ?_; refine gg [28,4,9,3,2003,4,3,33] ?_; exact ⟨.inl rfl, _, rfl, .of (by rw [mTxt_var]; simp [bcells]), trivial⟩
    | pair a b ha hb =>
      have sa : a.size ≤ m := by simp only [Ty.size, Ty.sizes] at hm; omega
      have sb : b.size ≤ m := by simp only [Ty.size, Ty.sizes] at hm; omega
      have hs2 : els.length + 30 * (1 + (a.size + b.size)) ≤ 1000000000 := by simp only [Ty.size, Ty.sizes] at hs; omega
      have la := mKid_len ha; have lb := mKid_len hb; have ca := kKidOf a ha (fun els hl => kPut m a els sa ha hl) els (by omega); have cb := kKidOf b hb (fun els hl => kPut m b els sb hb hl) (els ++ bcells (mKid a) ++ bcells [32, 42, 32]) (by simp only [List.length_append, bcells_len, List.length_cons, List.length_nil]; omega); refine gg [38,5,22,2003,1,0,9,4,2003,4,3,0,31,5,6,0,1,7,0,9,5,2003,6,4,3,0,35,5,26,1,0,9,6,2003,7,6,4,3,0,8,5,26,1,0,9,6,2003,11,6,4,3,0,8,5,26,1,0,9,6,2003,15,6,4,3,0,8,5,26,1,0,9,6,2003,19,6,4,3,0,8,5,26,1,0,9,6,2003,23,6,4,3,0,8,5,26,1,0,9,6,2003,28,6,4,3,0,8,5,26,1,0,9,6,2003,37,6,4,3,0,8,5,26,1,0,9,5,2003,46,4,3,0,32,5,29,6,2,1,7] ?_; refine u rfl rfl (r_indexAddr (e := 26) (sz := 3) rfl rfl (by kernel_rfl) rfl rfl (Int.le_refl 0) (tysD_at (l := [a, b]) (i := 0) rfl)) ?_; refine gg [21,3] ?_; refine uC (ca) ?_; refine u rfl rfl (r_appendS (e := 5) rfl rfl (by kernel_rfl) (by kernel_rfl) (by kernel_rfl) rfl rfl (by (try simp only [List.length_append, List.length_cons, List.length_nil, bcells_len]); omega)) ?_
      refine gg [6,2,1,7] ?_; refine u rfl rfl (r_indexAddr (e := 26) (sz := 3) rfl rfl (by kernel_rfl) rfl rfl (by decide) (tysD_at (l := [a, b]) (i := 1) rfl)) ?_; refine gg [21,3] ?_; refine gc (cb) [28,4,9,3,2003,4,3,33] ?_; exact ⟨.inl rfl, _, rfl, .of (by rw [mTxt_pair]; simp [bcells]), trivial⟩
    | list a ha =>
      have sa : a.size ≤ m := by simp only [Ty.size, Ty.sizes] at hm; omega
      have hs2 : els.length + 30 * (1 + a.size) ≤ 1000000000 := by simp only [Ty.size, Ty.sizes] at hs; omega
      have la := mKid_len ha; have ca := kKidOf a ha (fun els hl => kPut m a els sa ha hl) els (by omega); refine gg [38,5,22,2003,1,0,9,4,2003,4,3,0,31,5,6,0,1,7,0,9,5,2003,6,4,3,0,35,5,26,1,0,9,6,2003,7,6,4,3,0,8,5,26,1,0,9,6,2003,11,6,4,3,0,8,5,26,1,0,9,6,2003,15,6,4,3,0,8,5,26,1,0,9,6,2003,19,6,4,3,0,8,5,26,1,0,9,6,2003,23,6,4,3,0,8,5,26,1,0,9,6,2003,28,6,4,3,0,8,5,26,1,0,9,6,2003,37,6,4,3,0,32,5,29,6,2,1,7] ?_; refine u rfl rfl (r_indexAddr (e := 26) (sz := 3) rfl rfl (by kernel_rfl) rfl rfl (Int.le_refl 0) (tysD_at (l := [a]) (i := 0) rfl)) ?_; refine gg [21,3] ?_; refine uC (ca) ?_; refine u rfl rfl (r_appendS (e := 5) rfl rfl (by kernel_rfl) (by kernel_rfl) (by kernel_rfl) rfl rfl (by (try simp only [List.length_append, List.length_cons, List.length_nil, bcells_len]); omega)) ?_
      refine gg [28,0,9,3,2003,4,3,33] ?_; exact ⟨.inl rfl, _, rfl, .of (by rw [mTxt_list]; simp [bcells]), trivial⟩
    | func a b ha hb =>
      have sa : a.size ≤ m := by simp only [Ty.size, Ty.sizes] at hm; omega
      have sb : b.size ≤ m := by simp only [Ty.size, Ty.sizes] at hm; omega
      have hs2 : els.length + 30 * (1 + (a.size + b.size)) ≤ 1000000000 := by simp only [Ty.size, Ty.sizes] at hs; omega
      have la := mKid_len ha; have lb := mKid_len hb; have ca := kKidOf a ha (fun els hl => kPut m a els sa ha hl) els (by omega); have cb := kKidOf b hb (fun els hl => kPut m b els sb hb hl) (els ++ bcells (mKid a) ++ bcells [32, 45, 62, 32]) (by simp only [List.length_append, bcells_len, List.length_cons, List.length_nil]; omega); refine gg [38,5,22,2003,1,0,9,4,2003,4,3,0,31,5,6,0,1,7,0,9,5,2003,6,4,3,0,35,5,26,1,0,9,6,2003,7,6,4,3,0,8,5,26,1,0,9,6,2003,11,6,4,3,0,8,5,26,1,0,9,6,2003,15,6,4,3,0,8,5,26,1,0,9,6,2003,19,6,4,3,0,8,5,26,1,0,9,6,2003,23,6,4,3,0,8,5,26,1,0,9,6,2003,28,6,4,3,0,8,5,26,1,0,9,6,2003,37,6,4,3,0,8,5,26,1,0,9,5,2003,46,4,3,0,8,34,5,29,6,2,1,7] ?_; refine u rfl rfl (r_indexAddr (e := 26) (sz := 3) rfl rfl (by kernel_rfl) rfl rfl (Int.le_refl 0) (tysD_at (l := [a, b]) (i := 0) rfl)) ?_; refine gg [21,3] ?_; refine uC (ca) ?_; refine u rfl rfl (r_appendS (e := 5) rfl rfl (by kernel_rfl) (by kernel_rfl) (by kernel_rfl) rfl rfl (by (try simp only [List.length_append, List.length_cons, List.length_nil, bcells_len]); omega)) ?_
      refine gg [6,2,1,7] ?_; refine u rfl rfl (r_indexAddr (e := 26) (sz := 3) rfl rfl (by kernel_rfl) rfl rfl (by decide) (tysD_at (l := [a, b]) (i := 1) rfl)) ?_; refine gg [21,3] ?_; refine gc (cb) [28,4,9,1,4,33] ?_; exact ⟨.inl rfl, _, rfl, .of (by rw [mTxt_fun]; simp [bcells]), trivial⟩

theorem kText (t : Ty) (h : t.size ≤ 100000) : Con Tryz.prog 133 [.agg (tyE t)] [] (.tup [.c (.lit (str (if mRight t then mTxt t else []))), .c (.lit (.int .i64 (if mRight t then 0 else 1)))]) [] := by
  have hc := kCheck t (by omega)
  cases hr : mRight t with
  | false =>
    rw [hr] at hc; refine gg [38,5,22,2001,1,1,0,9,4,2001,3,2,1,31,5,20,3] ?_; refine gc (hc) [1,0,9,5,2001,4,3,2,1,5,2] ?_; refine u rfl rfl (r_neI rfl rfl rfl rfl) ?_; refine gg [0,9,6,2001,8,4,3,2,1,32,5,2,1,1,0,9,4,2001,3,2,1,33] ?_; exact ⟨.inl rfl, _, rfl, .refl _, trivial⟩
  | true =>
    rw [hr] at hc; have hR := right_ty t.size t (Nat.le_refl _) hr; have hp := con_nil0 (kPut t.size t [] (Nat.le_refl _) hR (by rw [List.length_nil]; omega)); rw [List.nil_append] at hp; refine gg [38,5,22,2001,1,1,0,9,4,2001,3,2,1,31,5,20,3] ?_; refine gc (hc) [1,0,9,5,2001,4,3,2,1,5,2] ?_; refine u rfl rfl (r_neI rfl rfl rfl rfl) ?_; refine gg [0,9,6,2001,8,4,3,2,1,8,34,5,20,3] ?_; refine uC (hp) ?_; refine u rfl rfl (r_strOwn rfl rfl (by kernel_rfl) rfl) ?_; refine gg [1,1,0,9,2,3,2,33] ?_; exact ⟨.inl rfl, _, rfl, .refl _, trivial⟩

end Go.Proofs.YtlagglkpbnbmeaaGreatDoor
