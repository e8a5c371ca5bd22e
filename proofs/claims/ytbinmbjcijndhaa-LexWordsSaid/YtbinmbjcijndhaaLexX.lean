/- The law LexExact: for any bytes the program's scanner and the reference's give the same tokens, or the same error; the bytes stay. -/
import Derived.Test.YtbinmbjcijndhaaLexW9
import Derived.Test.YtbinmbjcijndhaaLexQ2
import Derived.Lib.SlBytesConst
namespace Go.Proofs.Ytbinmbjcijndhaa
open Go Go.RowKit

set_option maxHeartbeats 2000000
set_option maxRecDepth 100000

theorem OwnG.form {α : Type} {T : TypeId} {sz : Nat} {f : α → List Value} {w : World} {base c : Nat} {A : Option Addr} {xs : List α} (h : OwnG T sz f w base A c xs) (hl : ∀ x, (f x).length = sz) (hne : 0 < xs.length) :
    ∃ g, A = some ⟨g, 0, none⟩ ∧ ∀ j k x v, xs[j]? = some x → (f x)[k]? = some v → w.cell? ⟨g, j * sz + k, none⟩ = some v := by
  have hrd := h.rd hl
  rcases h.2 with ⟨hv, h0⟩ | ⟨g, cap, cur, hv, _, hh, _⟩
  · omega
  · cases hv
    refine ⟨g, rfl, fun j k x v hx hv => ?_⟩
    have hj : j < xs.length := by
      rcases Nat.lt_or_ge j xs.length with h1 | h1
      · exact h1
      · rw [List.getElem?_eq_none h1] at hx; cases hx
    have hk : k < sz := by
      rw [← hl x]
      rcases Nat.lt_or_ge k (f x).length with h1 | h1
      · exact h1
      · rw [List.getElem?_eq_none h1] at hv; cases hv
    obtain ⟨ad, hA, _, hc⟩ := hrd j hj
    cases hA
    have := hc k hk
    rw [List.getElem?_eq_getElem hj] at hx
    cases hx
    rw [hv] at this
    rw [← this]
    congr 1
    unfold Addr.add
    split <;> simp_all

def src1 : List UInt8 := [108, 101, 116, 32, 120, 39, 61, 126, 53, 58, 58, 34, 97, 34, 35, 99, 10, 45, 62]
def src2 : List UInt8 := [97, 32, 36]
def toks1 : List Tok := [⟨2, 0, 3, [108, 101, 116], 0⟩, ⟨1, 4, 6, [120, 39], 0⟩, ⟨5, 6, 7, [61], 0⟩, ⟨3, 7, 9, [], -5⟩, ⟨5, 9, 11, [58, 58], 0⟩, ⟨4, 11, 14, [97], 0⟩, ⟨5, 17, 19, [45, 62], 0⟩]
theorem scan1 : mScan src1 = .ok toks1 := by kernel_rfl
theorem scan2 : mScan src2 = .error 2 := by kernel_rfl
theorem rdB_mark (w : World) (bs : List UInt8) (t : TypeId) (m : Nat × Nat) (cs : Array Value) (h : cs = (bs.map fun x => Value.int .u8 (x.toNat : Int)).toArray) : RdB (w.alloc (.cells cs t m)) (some ⟨w.heap.size, 0, none⟩) bs := by
  subst h
  intro j hj
  refine ⟨_, rfl, ?_⟩
  have e : (⟨w.heap.size, 0, none⟩ : Addr).add j = ⟨w.heap.size, j, none⟩ := by unfold Addr.add; split <;> simp_all
  rw [e, cell_of_row _ w.heap.size j _ t m (heap_alloc_new w _)]
  simp [hj]

theorem wakes_any (w : World) : Calls Try.prog 11 #[] w fun e w' => e = .returned (.bool true) ∧ Below w.heap.size w w' := by
  have kc := fun (w : World) (C : Array Value) (n c : Nat) => Lib.run_convert_bytes_const (P := Try.prog) w 22 5 C n c Try.underlying22 Try.underlying5
  go_enter Try.func11, Try.ntmps11
  go_wp2_with fail
  refine (lexScan_any (some _) 19 src1 _ (rdB_mark w src1 _ _ _ rfl) (by decide) (by decide)).mono ?_
  rintro e w1 ⟨hres, hb1⟩
  rw [scan1] at hres
  obtain ⟨A1, c1, rfl, hown1⟩ := hres
  have hsz1 := hb1.size
  go_wp2_with fail
  refine (lexScan_any (some _) 3 src2 _ (rdB_mark w1 src2 _ _ _ rfl) (by decide) (by decide)).mono ?_
  rintro e w2 ⟨hres2, hb2⟩
  rw [scan2] at hres2
  obtain rfl : e = _ := hres2
  obtain ⟨g, rfl, hc⟩ := ((hown1.alloc _).keep hb2).form (fun _ => rfl) (by decide)
  have c00 : w2.cell? ⟨g, 0, none⟩ = some (.int .i64 2) := hc 0 0 _ _ rfl rfl
  have c01 : w2.cell? ⟨g, 1, none⟩ = some (.int .i64 0) := hc 0 1 _ _ rfl rfl
  have c02 : w2.cell? ⟨g, 2, none⟩ = some (.int .i64 3) := hc 0 2 _ _ rfl rfl
  have c03 : w2.cell? ⟨g, 3, none⟩ = some (str [108, 101, 116]) := hc 0 3 _ _ rfl rfl
  have c04 : w2.cell? ⟨g, 4, none⟩ = some (.int .i64 0) := hc 0 4 _ _ rfl rfl
  have c10 : w2.cell? ⟨g, 5, none⟩ = some (.int .i64 1) := hc 1 0 _ _ rfl rfl
  have c13 : w2.cell? ⟨g, 8, none⟩ = some (str [120, 39]) := hc 1 3 _ _ rfl rfl
  have c30 : w2.cell? ⟨g, 15, none⟩ = some (.int .i64 3) := hc 3 0 _ _ rfl rfl
  have c34 : w2.cell? ⟨g, 19, none⟩ = some (.int .i64 (-5)) := hc 3 4 _ _ rfl rfl
  have c43 : w2.cell? ⟨g, 23, none⟩ = some (str [58, 58]) := hc 4 3 _ _ rfl rfl
  have c50 : w2.cell? ⟨g, 25, none⟩ = some (.int .i64 4) := hc 5 0 _ _ rfl rfl
  have c53 : w2.cell? ⟨g, 28, none⟩ = some (str [97]) := hc 5 3 _ _ rfl rfl
  have c61 : w2.cell? ⟨g, 31, none⟩ = some (.int .i64 17) := hc 6 1 _ _ rfl rfl
  have c63 : w2.cell? ⟨g, 33, none⟩ = some (str [45, 62]) := hc 6 3 _ _ rfl rfl
  clear hc
  have hz : w.heap.size + 1 ≤ w1.heap.size := by simpa using hsz1
  have hbl : Below w.heap.size w w2 := (((Below.refl _ _).alloc (Nat.le_refl _) _).trans (hb1.mono (by simp))).trans (((Below.refl _ _).alloc (by omega) _).trans (hb2.mono (by simp; omega)))
  clear hb1 hb2 hown1 hsz1
  go_wp2_with fail
  go_ret
  exact ⟨rfl, hbl⟩

theorem lexExact_any (A : Option Addr) (c : Nat) (bs : List UInt8) (w : World) (hb : RdB w A bs) (hcap : bs.length ≤ c) :
    Calls Try.prog 3 #[.slice A bs.length c] w fun e w' => e = .returned (.bool true) ∧ Below w.heap.size w w' := by
  by_cases hbig : 16394 < bs.length
  · have hbig' : (16394 : Int) < bs.length := by omega
    go_enter Try.func3, Try.ntmps3
    go_wp2_with fail
    go_ret
    exact ⟨rfl, Below.refl _ _⟩
  · have hbig' : (bs.length : Int) ≤ 16394 := by omega
    have hcv := run_conv (P := Try.prog) (c := c) hb rfl Try.underlying22 Try.underlying5 Try.underlying9
    go_enter Try.func3, Try.ntmps3
    go_wp2_with fail
    refine (lexScan_any A c bs _ hb hcap (by omega)).mono ?_
    rintro e w1 ⟨hres1, hb1⟩
    cases hm : mScan bs with
    | error p =>
      rw [hm] at hres1
      obtain rfl : e = _ := hres1
      have hm' := hide hm; clear hm
      go_wp2_with fail
      refine (refScan_any A c bs _ (hb.below hb1) hcap (by omega)).mono ?_
      rintro e w2 ⟨hres2, hb2⟩
      rw [hm'.out] at hres2
      obtain rfl : e = _ := hres2
      have hsz1 := hb1.size
      have hbl : Below w.heap.size w w2 := hb1.trans (hb2.mono hsz1)
      have hk := keepTokens_any none none 0 0 [] [] w2 (RdG.nil _ _ _ _) (RdG.nil _ _ _ _) (by simp) (by simp)
      clear hcv hb1 hb2
      go_wp2_with fail
      refine (Calls.mono hk ?_)
      rintro e w3 ⟨rfl, hb3⟩
      have hcv := run_conv (P := Try.prog) (c := c) ((hb.below hbl).below hb3) rfl Try.underlying22 Try.underlying5 Try.underlying9
      have hsz2 := hbl.size
      have hsz3 := hb3.size
      go_wp2_with fail
      refine (wakes_any _).mono ?_
      rintro e w4 ⟨rfl, hb4⟩
      go_wp2_with fail
      go_ret
      exact ⟨rfl, (hbl.trans (hb3.mono hsz2)).trans (hb4.mono (by omega))⟩
    | ok ts =>
      rw [hm] at hres1
      obtain ⟨A1, c1, rfl, hown1⟩ := hres1
      have hm' := hide hm; clear hm
      go_wp2_with fail
      refine (refScan_any A c bs _ (hb.below hb1) hcap (by omega)).mono ?_
      rintro e w2 ⟨hres2, hb2⟩
      rw [hm'.out] at hres2
      obtain ⟨A2, c2, rfl, hown2⟩ := hres2
      have hsz1 := hb1.size
      have hbl : Below w.heap.size w w2 := hb1.trans (hb2.mono hsz1)
      have hlen : ts.length ≤ 1000000000 := by
        have := mScan_len hm'.out
        omega
      have hk := keepTokens_any A1 A2 c1 c2 ts ts w2 ((hown1.keep hb2).rd (fun _ => rfl)) (hown2.rd (fun _ => rfl)) hlen hlen
      clear hcv hb1 hb2 hown1 hown2
      go_wp2_with fail
      refine (Calls.mono hk ?_)
      rintro e w3 ⟨rfl, hb3⟩
      have hcv := run_conv (P := Try.prog) (c := c) ((hb.below hbl).below hb3) rfl Try.underlying22 Try.underlying5 Try.underlying9
      have hsz2 := hbl.size
      have hsz3 := hb3.size
      go_wp2_with fail
      refine (wakes_any _).mono ?_
      rintro e w4 ⟨rfl, hb4⟩
      go_wp2_with fail
      go_ret
      exact ⟨rfl, (hbl.trans (hb3.mono hsz2)).trans (hb4.mono (by omega))⟩

end Go.Proofs.Ytbinmbjcijndhaa
