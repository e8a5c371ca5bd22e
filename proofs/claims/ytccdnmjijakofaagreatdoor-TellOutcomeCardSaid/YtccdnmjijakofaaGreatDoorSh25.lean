/- Arrays: built, an element's place. -/
import Derived.Test.YtccdnmjijakofaaGreatDoorSh22
namespace Go.Proofs.YtccdnmjijakofaaGreatDoor
open Go Go.RowKit
set_option linter.unusedVariables false

def arrOf? (P : Program) (T : TypeId) : Option (Nat × Nat) :=
  match P.underlying T with
  | some (.array len e) => (sizeT P e).map fun n => (len, n)
  | _ => none
theorem arrOf?_some {P : Program} {T : TypeId} {len n : Nat} (h : arrOf? P T = some (len, n)) : ∃ e, P.underlying T = some (.array len e) ∧ sizeT P e = some n := by
  unfold arrOf? at h
  cases hu : P.underlying T with
  | none => simp [hu] at h
  | some dd =>
    rw [hu] at h
    cases dd with
    | array len' e' =>
      simp only [Option.map_eq_some_iff] at h
      obtain ⟨m, hm, h⟩ := h
      cases h
      exact ⟨_, rfl, hm⟩
    | _ => simp at h
section
variable {P : Program} {o : Oper} {l : List (Nat × F)} {d : Nat}
theorem r_indexArr {T : TypeId} {x i : Operand} {y n sz len : Nat} {k : IntKind} {j : Int} (m : Nat) (ho : o.op = .indexAddr T x i) (hd : o.dst = some d) (hT : arrOf? P T = some (len, sz)) (hx : opd l x = some (.ptr y n))
    (hi : opd l i = some (.c (.lit (.int k j)))) (hj : j = (m : Int)) (hm : m < len) (hmm : (Nat.blt n mapT && Nat.blt (n + m * sz) mapT) = true) : Does P o (rdOf x ++ rdOf i) [] l [(d, .ptr y (n + m * sz))] :=
  Does.val hd trivial fun S ρ tv a w hv => by
    rw [Bool.and_eq_true] at hmm
    have h1 : a.eval x = .pointer (some ⟨ρ y, n, none⟩) := Eq.trans (hv.fv hx (fun _ h => List.mem_append_left _ h) (by intro T xs e; cases e)) (ptrV_ptr hmm.1)
    have h3 := lit_val (hv.fv hi (fun _ h => List.mem_append_right _ h) (by intro T xs e; cases e))
    obtain ⟨e, hu, hs⟩ := arrOf?_some hT
    subst hj
    have hlt' : (0 : Int) ≤ (m : Int) ∧ (m : Int) < (len : Int) := by omega
    refine ⟨_, ?_, (ptrV_ptr hmm.2).symm⟩
    simp only [execOp, ho, h1, h3, Instr.indexAt, Instr.sureAddr, asIntOf, Sem.run_bind, Sem.run_pure, Result.andThen_ok, run_underlying hu w, if_pos hlt', run_sizeOf' hs w, addr_add, Int.toNat_natCast]
theorem r_buildArr {T : TypeId} {parts : Array (Nat × Operand)} {zs : List Value} {len sz : Nat} {ps : List (Nat × List D)} {out : List D} (ds : List D) (ho : o.op = .build T parts) (hd : o.dst = some d) (hz : zeroT P T = some zs) (hq : arrOf? P T = some (len, sz))
    (hw : WkDs (zs.map .lit) ds) (hp : partsD l parts.toList = some ps) (hf : fillD (fun i => some (i * sz, sz)) ds ps = some out) : Does P o (rdsOf parts.toList) [] l [(d, .agg out)] :=
  Does.val hd trivial fun S ρ tv a w hv => by
    obtain ⟨z, h1, h2, h3⟩ := zeroT_some hz
    obtain ⟨outv, h4, h5⟩ := fill_ok (l := l) (S := S) (w := w) (ρ := ρ) (a := a) (place := fun i => some (i * sz, sz)) parts.toList ps _ zs out (fun x hx f h1 h2 => hv.fv h1 (fun k hk => by
      unfold rdsOf
      exact List.mem_flatMap.2 ⟨x, hx, hk⟩) h2) hp (hw.ok (LIn.lits h3)) hf
    refine ⟨.agg outv.toArray, ?_, outv, rfl, h5⟩
    obtain ⟨e, hu, hs⟩ := arrOf?_some hq
    have h6 : Instr.fill (fun i => some (i * sz, sz)) z.cells (parts.map fun (i, x) => (i, a.eval x)).toList = some outv.toArray := by
      rw [h2, Array.toList_map]
      exact h4
    simp only [execOp, ho, Instr.build, Sem.run_bind, h1 w, Result.andThen_ok, run_underlying hu w, run_sizeOf' hs w, h6, Sem.run_pure]
theorem bytes_at (s : List UInt8) (i : Nat) : (⟨s.toArray⟩ : ByteArray)[i]? = s[i]? := by
  by_cases h : i < s.length
  · have h1 : i < (⟨s.toArray⟩ : ByteArray).size := by simpa [ByteArray.size] using h
    rw [getElem?_pos (⟨s.toArray⟩ : ByteArray) i h1, List.getElem?_eq_getElem h]
    rfl
  · have h1 : ¬ i < (⟨s.toArray⟩ : ByteArray).size := by simpa [ByteArray.size] using h
    rw [getElem?_neg (⟨s.toArray⟩ : ByteArray) i h1, List.getElem?_eq_none (by omega)]
theorem r_strAt {T : TypeId} {x i : Operand} {s : List UInt8} {k : IntKind} {n : Int} {b : UInt8} (ho : o.op = .index T x i) (hd : o.dst = some d) (hT : stringT P T = true) (hx : opd l x = some (.c (.lit (str s)))) (hi : opd l i = some (.c (.lit (.int k n)))) (h0 : 0 ≤ n) (hb : s[n.toNat]? = some b) :
    Does P o (rdOf x ++ rdOf i) [] l [(d, .c (.lit (.int .u8 (b.toNat : Int))))] :=
  Does.val hd trivial fun S ρ tv a w hv => by
    have h1 := lit_val (hv.fv hx (fun _ h => List.mem_append_left _ h) (by intro T xs e; cases e))
    have h3 := lit_val (hv.fv hi (fun _ h => List.mem_append_right _ h) (by intro T xs e; cases e))
    refine ⟨.int .u8 (b.toNat : Int), ?_, .lit _ rfl⟩
    unfold stringT at hT
    cases hu : P.underlying T with
    | none => simp [hu] at hT
    | some dd =>
      cases dd <;> simp_all [execOp, Instr.index, asIntOf, run_underlying hu w, str, bytes_at]
end
end Go.Proofs.YtccdnmjijakofaaGreatDoor
