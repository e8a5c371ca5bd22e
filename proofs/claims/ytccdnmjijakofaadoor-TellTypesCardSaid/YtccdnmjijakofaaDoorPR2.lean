/- The plain laws of texts read back, ready for the walks. No program in sight. -/
import Derived.Test.YtccdnmjijakofaaDoorPR
namespace Go.Proofs.YtccdnmjijakofaaDoor

theorem mTxt_len7 {t : Ty} (h : ClosedTy t) : (mTxt t).length + 1 ≤ 7 * t.size := by
  have key : ∀ t : Ty, (mTxt t).length + 1 ≤ 7 * t.size → (mKid t).length ≤ 7 * t.size + 1 := by
    intro t h
    rw [mKid_eq]
    split
    · omega
    · simp only [List.length_append, List.length_cons, List.length_nil]; omega
  induction h with
  | pair a b _ _ ha hb =>
    have h1 := key a ha
    have h2 := key b hb
    rw [mTxt_pair]
    simp only [List.length_append, List.length_cons, List.length_nil, Ty.size, Ty.sizes]; omega
  | list a _ ha =>
    have h1 := key a ha
    rw [mTxt_list]
    simp only [List.length_append, List.length_cons, List.length_nil, Ty.size, Ty.sizes]; omega
  | func a b _ _ ha hb =>
    have h1 := key a ha
    have h2 := key b hb
    rw [mTxt_fun]
    simp only [List.length_append, List.length_cons, List.length_nil, Ty.size, Ty.sizes]; omega
  | _ => simp [mTxt, Ty.size, Ty.sizes, tkInt, tkBool, tkString, tkUnit]
theorem sc_scan {l : List UInt8} {bs : List BTok} (h : Sc l bs) (hl : l.length ≤ 16384) : ∃ ts, mScan l = .ok ts ∧ ts.map Tok.bare = bs := by
  obtain ⟨ts, h1, h2⟩ := h 0
  exact ⟨ts, by rw [mScan_small hl, scans_det h1]; rfl, h2⟩
theorem closed_right {t : Ty} (hr : mRight t = true) (hw : mWithout 6 t = true) : ClosedTy t := closed_of (right_ty t.size t (Nat.le_refl _) hr) hw
theorem txt_scan {t : Ty} (h : ClosedTy t) (hs : t.size ≤ 600) : ∃ ts, mScan (mTxt t) = .ok ts ∧ ts.map Tok.bare = bTxt t := by
  have h1 := sc_txt h [] [] bound_nil sc_nil
  rw [List.append_nil, List.append_nil] at h1
  have := mTxt_len7 h
  exact sc_scan h1 (by omega)
theorem nogo_nil : NoGo [] := fun b r h => by cases h
/-- a type is read from its own place on -/
theorem read_at {t : Ty} (h : ClosedTy t) (a ts : List Tok) {rb : List BTok} (hm : ts.map Tok.bare = bTxt t ++ rb) (hn : NoGo rb) : mRead (a ++ ts) (a.length : Int) = (t, ((a.length + (bTxt t).length : Nat) : Int), 0) := by
  have hl : (bTxt t).length ≤ ts.length := by
    have := congrArg List.length hm
    simp only [List.length_map, List.length_append] at this
    omega
  rw [mRead, if_neg (by simp only [List.length_append]; omega), Int.toNat_natCast, List.drop_left, mTyp, rd_txt h (ts.length + 1) ts rb hm hn (by omega)]
  show (t, (((a ++ ts).length - (ts.drop (bTxt t).length).length : Nat) : Int), (0 : Int)) = _
  rw [List.length_drop, List.length_append, show a.length + ts.length - (ts.length - (bTxt t).length) = a.length + (bTxt t).length by omega]
theorem read_end (ts : List Tok) : mRead ts (ts.length : Int) = (.leaf 0, (ts.length : Int), 3) := by
  rw [mRead, if_neg (by omega), Int.toNat_natCast, List.drop_length]
  have : mTyp [] = .error 0 := rfl
  rw [this]
  rfl
theorem read_out (ts : List Tok) (i : Int) (h : i < 0 ∨ (ts.length : Int) < i) : mRead ts i = (.leaf 0, 0, 1) := by rw [mRead, if_pos h]

end Go.Proofs.YtccdnmjijakofaaDoor
