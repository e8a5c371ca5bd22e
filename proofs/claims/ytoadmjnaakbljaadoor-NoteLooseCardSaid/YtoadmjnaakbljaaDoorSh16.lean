/- Integers turned and divided, a row's first elements, an empty row. -/
import Derived.Test.YtoadmjnaakbljaaDoorSH
namespace Go.Proofs.YtoadmjnaakbljaaDoor
open Go Go.RowKit
set_option linter.unusedVariables false

section
variable {P : Program} {o : Oper} {l : List (Nat × F)} {d : Nat}
theorem cast_b {d : Nat} {b b' : Bool} (h : b = b') : [(d, F.c (.lit (.bool b)))] = [(d, F.c (.lit (.bool b')))] := by rw [h]
theorem cast_i {d : Nat} {k : IntKind} {i j : Int} (h : i = j) : [(d, F.c (.lit (.int k i)))] = [(d, F.c (.lit (.int k j)))] := by rw [h]
def intT (P : Program) (T : TypeId) : Option IntKind := match P.underlying T with | some (.int k) => some k | _ => none
theorem intT_some {T : TypeId} {k : IntKind} (h : intT P T = some k) : P.underlying T = some (.int k) := by
  unfold intT at h
  split at h
  · cases h; assumption
  · cases h
theorem r_convI {A B : TypeId} {x : Operand} {k k' : IntKind} {n : Int} (ho : o.op = .convert A B x) (hd : o.dst = some d) (hA : (P.underlying A).isSome = true) (hB : intT P B = some k') (hx : opd l x = some (.c (.lit (.int k n)))) : Does P o (rdOf x) [] l [(d, .c (.lit (.int k' (k'.wrap n))))] :=
  r_conv ho hd hx rfl fun w => by
    obtain ⟨dd, hdd⟩ := Option.isSome_iff_exists.mp hA
    simp [convert, run_underlying hdd, run_underlying (intT_some hB), Conv.intToInt]
theorem r_remI {T T' : TypeId} {x y : Operand} {k : IntKind} {i j : Int} (ho : o.op = .binOp .rem T x y T') (hd : o.dst = some d) (hx : opd l x = some (.c (.lit (.int k i)))) (hy : opd l y = some (.c (.lit (.int k j)))) (hj : j ≠ 0) :
    Does P o (rdOf x ++ rdOf y) [] l [(d, .c (.lit (.int k (i.tmod j))))] :=
  r_bin ho hd hx hy rfl fun w => by simp [eqGuard, binOp, Op.intDiv, hj]
/-- row[:k] -/
theorem r_sliceTo {T e : TypeId} {sz : Nat} {x y : Operand} {els : List (List D)} {k : Nat} (ho : o.op = .slice T x none (some y) none) (hd : o.dst = some d) (hT : elemOf? P T = some (e, sz)) (hx : opd l x = some (.c (.sl sz els))) (hy : opd l y = some (.c (.lit (.int .i64 (k : Int))))) (hk : k ≤ els.length) :
    Does P o (rdOf x ++ rdOf y) [] l [(d, .c (.sl sz (els.take k)))] :=
  Does.val hd trivial fun S ρ tv a w hv => by
    have e1 := lit_val (hv.fv hy (fun _ h => List.mem_append_right _ h) (by intro T xs e; cases e))
    obtain ⟨A, c, h1, hc, hne, hr, hcells⟩ := DIn.row (hv.fv hx (fun _ h => List.mem_append_left _ h) (by intro T xs e; cases e))
    obtain ⟨hu, hs⟩ := elemOf?_some hT
    have hel : P.elem T = e := by unfold Program.elem; rw [hu]
    have hl : (els.take k).length = k := by rw [List.length_take]; omega
    refine ⟨.slice (if c = 0 then A else A.map (·.add (0 * sz))) k (c - 0), ?_, ?_⟩
    · simp only [execOp, ho, h1, e1, Option.map_none, Option.map_some]
      have hz : (sizeOf (P.elem T)).run P w = .ok sz w := by
        rw [hel]
        unfold sizeT at hs
        cases hi : P.info? e with
        | none => rw [hi] at hs; cases hs
        | some i => rw [hi] at hs; simp only [Option.map_some, Option.some.injEq] at hs; simp [sizeOf, typeInfo, hi, hs]
      have hrun := run_slice_h (P := P) w T A els.length c (by rw [hel]; exact hu) .i64 (k : Int) (by omega) (by omega)
      rw [hz, Result.andThen_ok] at hrun
      rw [Sem.run_bind, run_sliceAt_slice (P := P) w T _ _ _ _ (by rw [hel]; exact hu), hrun]
      rfl
    · show DIn S w (.sl sz (els.take k)) _
      have hA : (if c = 0 then A else A.map (·.add (0 * sz))) = A := by
        split
        · rfl
        · cases A with
          | none => rfl
          | some ad => simp [Addr.add]
      rw [hA, Nat.sub_zero]
      refine .ofRow hl.symm (by omega) (fun h0 => hne (by omega)) (fun r hr' => hr r (List.mem_of_mem_take hr')) (fun i j dd hij => ?_)
      unfold D.at at hij
      rw [List.getElem?_take] at hij
      split at hij
      · exact hcells i j dd hij
      · cases hij
/-- T{} : an empty row of one's own -/
theorem r_buildNone {T e : TypeId} {sz : Nat} (ho : o.op = .buildSlice T 0 #[]) (hd : o.dst = some d) (hT : elemOf? P T = some (e, sz)) : Does P o [] [] l [(d, .own e sz []), (d, .non)] := by
  intro en σ a w next Q hnn hdn hσ _ hR hnext
  obtain ⟨hdf, hsz, hfr, ρ, tv, htv, hin, hvz, hrr⟩ := hR
  obtain ⟨hu, hs⟩ := elemOf?_some hT
  have h1 : (execOp a.eval o).run P w = .ok (.value (.slice (some ⟨w.heap.size, 0, none⟩) 0 0)) (w.alloc (.cells #[] e)) := by
    unfold sizeT at hs
    cases hi : P.info? e with
    | none => rw [hi] at hs; cases hs
    | some ie =>
      have h7 : (Instr.buildSlice T 0 #[]).run P w = .ok (.slice (some ⟨w.heap.size, 0, none⟩) 0 0) (w.alloc (.cells #[] e)) := by
        have e0 : ∀ f : Nat → Value, (Array.range 0).map f = #[] := fun f => Array.eq_empty_of_size_eq_zero (by simp)
        simp [Instr.buildSlice, run_underlying hu, sizeOf, typeInfo, hi, Instr.fill, newRow, e0]
      simp only [execOp, ho, Sem.run_bind, List.map_toArray, List.map_nil, h7]
      rfl
  have hbl : Below w.heap.size w (w.alloc (.cells #[] e)) := (Below.refl _ _).alloc (Nat.le_refl _) _
  unfold Oper.wp
  rw [h1, Oper.upon_value, hd]
  have hdlt : d < 1000 := Nat.lt_of_lt_of_le (hdn d hd) hnn
  refine hnext _ _ (R.own (w := w) hdf hsz (hfr.grow hbl) htv hin hvz hfr.size (hdn d hd) hnn (hrr.own (.inl hdlt) (fun _ => False) (fun p hp => hp.elim) hbl.size (fun p hp _ => hbl.cell hp) (fun b hb _ => hbl.block b hb) (us := []) ?_ (fun r hr => by simp at hr) trivial (fun p hp _ => .inr ?_) (fun b hb => .inr ?_)))
  · exact ⟨by simp, .inr ⟨w.heap.size, 0, #[], rfl, Nat.zero_le _, heap_alloc_new w _, Nat.le_refl _, by unfold maxLen; omega, by simp, by simp⟩⟩
  · simp [Value.ownBlock] at hp; omega
  · simp [Value.ownBlock] at hb; omega
end

end Go.Proofs.YtoadmjnaakbljaaDoor
