/- Arguments opened: numbers, rows of bytes. -/
import Derived.Test.YtlagglkpbnbmeaaGreatDoorLY
import Derived.Test.YtlagglkpbnbmeaaGreatDoorTX
import Derived.Deep.Slices
import Derived.Deep.Fields
import Derived.ChangeSame
import Derived.Lib.SmallJoins
namespace Go.Proofs.YtlagglkpbnbmeaaGreatDoor
open Go Go.RowKit Go.ChangeShapes Go.WideShapes Go.Deep

theorem lit_i64 {n : Int} (h : (Lit.int .i64 n).wf = true) : I64 n := by
  simp only [Lit.wf, Bool.and_eq_true, decide_eq_true_eq] at h
  exact h

theorem con_calls {P : Program} {f : FuncId} {fs : List F} {v0 : Value} (h : Con P f fs [] (.c (.lit v0)) []) (hfs : ∀ g, g ∈ fs → Flat g) {W : World} {args : Array Value} (hsz : args.size = fs.length)
    (hargs : ∀ i g, fs[i]? = some g → FV (fun p => p.block < W.heap.size) (fun _ => 0) W g (args.getD i undef)) (htt : TT W.heap.size W) : Calls P f args W fun e W' => e = .returned v0 ∧ Below W.heap.size W W' := by
  have hini : ∀ k g, find (ini fs []) k = some g → fs[k]? = some g := by
    intro k g hk
    unfold ini at hk
    rw [List.append_nil, find_nums] at hk
    simpa using hk
  have hflat : ∀ k g, find (ini fs []) k = some g → Flat g := fun k g hk => hfs g (List.mem_of_getElem? (hini k g hk))
  have hex : ∀ (ρ : Nat → Nat) (tv : Nat → Value) k g, find (ini fs []) k = some g → ex ρ tv k g = none := fun ρ tv k g hk => by
    have := hflat k g hk
    cases g <;> first | rfl | exact this.elim
  have hvol : ∀ p, ¬ vol (find (ini fs [])) (fun _ => 0) (fun i => args.getD i undef) p := fun p ⟨k, g, h1, h2, _⟩ => by rw [hex _ _ k g h1] at h2; cases h2
  have hrr : RR (fun _ => False) (fun _ => 0) (fun i => args.getD i undef) W (find (ini fs [])) := by
    refine ⟨fun p hp => hp.elim, fun k g hk => ?_, fun k g k' g' b h1 _ h3 _ => (by rw [hex _ _ k g h1] at h3; cases h3), fun k g b h1 h2 => (by rw [hex _ _ k g h1] at h2; cases h2)⟩
    refine KV.fv (FV.mono (S := fun p => p.block < W.heap.size) (w := W) (fun p hp => ⟨hp, fun e => e, hvol p⟩) (fun _ _ => rfl) (fun x o e => ?_) (fun _ _ _ e => ?_) (hargs k g (hini k g hk))) (fun p e => by have := hflat k g hk; rw [e] at this; exact this)
    · rfl
    · intro b _; rfl
  refine (h (fun _ => False) (fun _ => 0) (fun i => args.getD i undef) W args W.heap.size hsz (fun _ _ => rfl) hrr htt (fun p hp => (hvol p hp).elim) (Nat.le_refl _)).mono ?_
  rintro e w' ⟨v, tv', rfl, hv, hfr, hrr', _⟩
  have := lit_val (ρ := fun _ => 0) (hrr'.rel 0 _ rfl)
  rw [← hv, this]
  exact ⟨rfl, hfr.below fun p _ => hvol p⟩

end Go.Proofs.YtlagglkpbnbmeaaGreatDoor
