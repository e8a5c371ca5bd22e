/- The plain laws of texts read back, ready for the walks. No program in sight. -/
import Derived.Test.YtlagglkpbnbmeaaGreatDoorPR
namespace Go.Proofs.YtlagglkpbnbmeaaGreatDoor

theorem mTxt_len7 {t : Ty} (h : ClosedTy t) : (mTxt t).length + 1 ≤ 7 * t.size := by
  have key : ∀ t : Ty, (mTxt t).length + 1 ≤ 7 * t.size → (mKid t).length ≤ 7 * t.size + 1 := by
    intro t h
    rw [mKid_eq]
    split
    · omega
    · simp only [List.length_append, List.length_cons, List.length_nil]; omega
  induction h with
  | pair a b _ _ ha hb =>
    have h1 := key a ha
    have h2 := key b hb
    rw [mTxt_pair]
    simp only [List.length_append, List.length_cons, List.length_nil, Ty.size, Ty.sizes]; omega
  | list a _ ha =>
    have h1 := key a ha
    rw [mTxt_list]
    simp only [List.length_append, List.length_cons, List.length_nil, Ty.size, Ty.sizes]; omega
  | func a b _ _ ha hb =>
    have h1 := key a ha
    have h2 := key b hb
    rw [mTxt_fun]
    simp only [List.length_append, List.length_cons, List.length_nil, Ty.size, Ty.sizes]; omega
  | _ => simp [mTxt, Ty.size, Ty.sizes, tkInt, tkBool, tkString, tkUnit]
theorem closed_right {t : Ty} (hr : mRight t = true) (hw : mWithout 6 t = true) : ClosedTy t := closed_of (right_ty t.size t (Nat.le_refl _) hr) hw
end Go.Proofs.YtlagglkpbnbmeaaGreatDoor
