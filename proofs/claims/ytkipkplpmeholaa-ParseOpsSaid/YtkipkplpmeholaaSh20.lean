/- row[i:], row[:i] of numbers. -/
import Derived.Test.YtkipkplpmeholaaShZ
namespace Go.Proofs.Ytkipkplpmeholaa
open Go Go.RowKit
set_option linter.unusedVariables false

section
variable {P : Program} {o : Oper} {l : List (Nat × F)} {d : Nat}
/-- row[k:] -/
theorem r_sliceFrom {T e : TypeId} {sz : Nat} {x y : Operand} {els : List (List D)} {k : Nat} (ho : o.op = .slice T x (some y) none none) (hd : o.dst = some d) (hT : elemOf? P T = some (e, sz)) (hx : opd l x = some (.c (.sl sz els))) (hy : opd l y = some (.c (.lit (.int .i64 (k : Int))))) (hk : k ≤ els.length) :
    Does P o (rdOf x ++ rdOf y) [] l [(d, .c (.sl sz (els.drop k)))] :=
  Does.val hd trivial fun S ρ tv a w hv => by
    have e1 := lit_val (hv.fv hy (fun _ h => List.mem_append_right _ h) (by intro T xs e; cases e))
    obtain ⟨A, c, h1, hc, hne, hr, hcells⟩ := DIn.row (hv.fv hx (fun _ h => List.mem_append_left _ h) (by intro T xs e; cases e))
    obtain ⟨hu, hs⟩ := elemOf?_some hT
    have hel : P.elem T = e := by unfold Program.elem; rw [hu]
    have hl : (els.drop k).length = els.length - k := List.length_drop
    refine ⟨.slice (if c = k then A else A.map (·.add (k * sz))) (els.length - k) (c - k), ?_, ?_⟩
    · simp only [execOp, ho, h1, e1, Option.map_none, Option.map_some]
      have hz : (sizeOf (P.elem T)).run P w = .ok sz w := by
        rw [hel]
        unfold sizeT at hs
        cases hi : P.info? e with
        | none => rw [hi] at hs; cases hs
        | some i => rw [hi] at hs; simp only [Option.map_some, Option.some.injEq] at hs; simp [sizeOf, typeInfo, hi, hs]
      have hrun := run_slice_l (P := P) w T A els.length c (by rw [hel]; exact hu) .i64 (k : Int) (by omega) (by omega)
      rw [hz, Result.andThen_ok] at hrun
      rw [Sem.run_bind, run_sliceAt_slice (P := P) w T _ _ _ _ (by rw [hel]; exact hu), hrun]
      rfl
    · show DIn S w (.sl sz (els.drop k)) _
      refine .ofRow hl.symm (by rw [hl]; omega) (fun h0 => ?_) (fun r hr' => hr r (List.mem_of_mem_drop hr')) (fun i j dd hij => ?_)
      · rw [hl] at h0
        obtain ⟨ad, hA⟩ := hne (by omega)
        rw [if_neg (by omega), hA]
        exact ⟨_, rfl⟩
      · unfold D.at at hij
        rw [List.getElem?_drop] at hij
        have hlt : k + i < els.length := by
          rcases Nat.lt_or_ge (k + i) els.length with h | h
          · exact h
          · rw [List.getElem?_eq_none h] at hij; cases hij
        obtain ⟨ad, u, hA, hS, hcl, hdi⟩ := hcells (k + i) j dd hij
        rw [if_neg (by omega), hA]
        refine ⟨ad.add (k * sz), u, rfl, ?_, ?_, hdi⟩
        · rw [add_add', show k * sz + (i * sz + j) = (k + i) * sz + j by rw [Nat.add_mul]; omega]; exact hS
        · rw [add_add', show k * sz + (i * sz + j) = (k + i) * sz + j by rw [Nat.add_mul]; omega]; exact hcl
end

end Go.Proofs.Ytkipkplpmeholaa
