/- Shadows: the other operations. -/
import Derived.Test.YtoadmjnaakbljaaDoorSh12
namespace Go.Proofs.YtoadmjnaakbljaaDoor
set_option linter.unusedVariables false
open Go Go.RowKit

section
variable {P : Program} {o : Oper} {l : List (Nat × F)} {d : Nat}
/-! parts of a struct by value -/
def partAt? (P : Program) (T : TypeId) (i : Nat) : Option (Nat × TypeId) :=
  match P.underlying T with
  | some (.struct fs) => (fs[i]?).map fun f => (f.offset, f.type)
  | _ => none
theorem partAt?_some {P : Program} {T T' : TypeId} {i off : Nat} (h : partAt? P T i = some (off, T')) : ∃ fs f, P.underlying T = some (.struct fs) ∧ fs[i]? = some f ∧ f.offset = off ∧ f.type = T' := by
  unfold partAt? at h
  cases hu : P.underlying T with
  | none => simp [hu] at h
  | some dd =>
    rw [hu] at h
    cases dd with
    | struct fs =>
      simp only [Option.map_eq_some_iff] at h
      obtain ⟨f, hf, h⟩ := h
      cases h
      exact ⟨fs, f, rfl, hf, rfl, rfl⟩
    | _ => simp at h
theorem r_field {T T' : TypeId} {x : Operand} {i off : Nat} {ds : List D} {u : D} (ho : o.op = .field T x i) (hd : o.dst = some d) (hT : partAt? P T i = some (off, T')) (hT' : plainT P T' = true) (hx : opd l x = some (.agg ds)) (hu : ds[off]? = some u) : Does P o (rdOf x) [] l [(d, .c u)] :=
  Does.val hd trivial fun S ρ tv a w hv => by
    obtain ⟨vs, h1, h2⟩ := hv.fv hx (fun _ h => h) (by intro T xs e; cases e)
    obtain ⟨fs, f, h3, h4, h5, h6⟩ := partAt?_some hT
    obtain ⟨v, h7, h8⟩ := h2.get off u hu
    subst h5 h6
    refine ⟨v, ?_, h8⟩
    simp only [execOp, ho, h1, Instr.field, Sem.run_bind, run_underlying h3 w, Result.andThen_ok, h4, asAgg, Sem.run_pure, part, run_isAgg_no hT' w, Bool.false_eq_true, if_false, List.getElem?_toArray, h7]
theorem r_fieldA {T T' : TypeId} {x : Operand} {i off m : Nat} {ds us : List D} (ho : o.op = .field T x i) (hd : o.dst = some d) (hT : partAt? P T i = some (off, T')) (hT' : aggN P T' = some m) (hx : opd l x = some (.agg ds)) (hu : (ds.drop off).take m = us) : Does P o (rdOf x) [] l [(d, .agg us)] :=
  Does.val hd trivial fun S ρ tv a w hv => by
    obtain ⟨vs, h1, h2⟩ := hv.fv hx (fun _ h => h) (by intro T xs e; cases e)
    obtain ⟨fs, f, h3, h4, h5, h6⟩ := partAt?_some hT
    subst h5 h6
    obtain ⟨g1, g2⟩ := run_isAgg_yes hT' w
    refine ⟨.agg ((vs.drop f.offset).take m).toArray, ?_, _, rfl, by rw [← hu]; exact (h2.drop _).take _⟩
    have e1 : (vs.toArray.extract f.offset (f.offset + m)) = ((vs.drop f.offset).take m).toArray := by
      apply Array.ext'
      simp [List.extract_eq_take_drop]
    simp only [execOp, ho, h1, Instr.field, Sem.run_bind, run_underlying h3 w, Result.andThen_ok, h4, asAgg, Sem.run_pure, part, g1, if_true, run_sizeOf' g2 w, e1]

/-! strings -/
theorem r_catS {T T' : TypeId} {x y : Operand} {s t : List UInt8} (ho : o.op = .binOp .add T x y T') (hd : o.dst = some d) (hx : opd l x = some (.c (.lit (str s)))) (hy : opd l y = some (.c (.lit (str t)))) (hb : s.length + t.length ≤ 9223372036854775807) :
    Does P o (rdOf x ++ rdOf y) [] l [(d, .c (.lit (str (s ++ t))))] :=
  r_bin ho hd hx hy rfl fun w => by
    simp [eqGuard, binOp, Op.stringOp, ByteArray.mk_append_mk]
    have e1 : (⟨s.toArray⟩ : ByteArray).size = s.length := by simp [ByteArray.size]
    have e2 : (⟨t.toArray⟩ : ByteArray).size = t.length := by simp [ByteArray.size]
    rw [e1, e2]
    omega
theorem r_conv {A B : TypeId} {x : Operand} {u r : Value} (ho : o.op = .convert A B x) (hd : o.dst = some d) (hx : opd l x = some (.c (.lit u))) (h1 : r.oneCell' = true) (h : ∀ w, (convert A B u).run P w = .ok r w) : Does P o (rdOf x) [] l [(d, .c (.lit r))] :=
  r_un (fun v => convert A B v) (fun ev => by unfold execOp; rw [ho]) hd hx h1 h

/-! rows of bytes -/
theorem bcells_len (s : List UInt8) : (bcells s).length = s.length := by simp [bcells]
theorem bcells_rows (s : List UInt8) : ∀ r, r ∈ bcells s → r.length = 1 := by
  intro r hr
  unfold bcells at hr
  obtain ⟨x, _, rfl⟩ := List.mem_map.1 hr
  rfl
theorem bcells_at (s : List UInt8) (i : Nat) (h : i < s.length) : D.at (bcells s) i 0 = some (.lit (.int .u8 ((s[i]'h).toNat : Int))) := by
  simp [D.at, bcells, h]
theorem bytes_fold (bs : List UInt8) : ((bs.map (fun x => (x.toNat : Int))).foldl (fun r n => r.push (UInt8.ofNat n.toNat)) ByteArray.empty) = (⟨bs.toArray⟩ : ByteArray) := by
  rw [foldl_push_bytes]
  have e : ((fun n : Int => UInt8.ofNat n.toNat) ∘ fun x : UInt8 => (x.toNat : Int)) = id := by funext x; simp
  rw [List.map_map, e, List.map_id]
  show (⟨(#[] : Array UInt8) ++ bs.toArray⟩ : ByteArray) = _
  simp
def byteRow (P : Program) (T D' : TypeId) : Bool :=
  match P.underlying T with
  | some (.slice e) => (match P.underlying e with | some (.int .u8) => true | _ => false) && stringT P D'
  | _ => false
theorem byteRow_some {P : Program} {T D' : TypeId} (h : byteRow P T D' = true) : ∃ e, P.underlying T = some (.slice e) ∧ P.underlying e = some (.int .u8) ∧ P.underlying D' = some .string := by
  unfold byteRow at h
  cases hu : P.underlying T with
  | none => simp [hu] at h
  | some dd =>
    rw [hu] at h
    cases dd with
    | slice e =>
      simp only [Bool.and_eq_true] at h
      obtain ⟨h1, h2⟩ := h
      refine ⟨e, rfl, ?_, ?_⟩
      · cases he : P.underlying e with
        | none => simp [he] at h1
        | some d2 =>
          rw [he] at h1
          cases d2 with
          | int k => cases k <;> first | rfl | cases h1
          | _ => cases h1
      · unfold stringT at h2
        cases hd : P.underlying D' with
        | none => simp [hd] at h2
        | some d2 => rw [hd] at h2; cases d2 <;> first | rfl | cases h2
    | _ => simp at h
/-- string(b) -/
theorem r_strOf {A B : TypeId} {x : Operand} {s : List UInt8} (ho : o.op = .convert A B x) (hd : o.dst = some d) (hT : byteRow P A B = true) (hx : opd l x = some (.c (.sl 1 (bcells s)))) : Does P o (rdOf x) [] l [(d, .c (.lit (str s)))] :=
  Does.val hd trivial fun S ρ tv a w hv => by
    obtain ⟨A', c, h1, hc, hne, hr, hcells⟩ := DIn.row (hv.fv hx (fun _ h => h) (by intro T xs e; cases e))
    obtain ⟨e, hs, he, hd'⟩ := byteRow_some hT
    rw [bcells_len] at h1
    have hcell : ∀ j (hj : j < s.length), ∃ ad, A' = some ad ∧ w.cell? (ad.add j) = some (.int .u8 (s[j].toNat : Int)) := by
      intro j hj
      obtain ⟨ad, u, g1, _, g3, g4⟩ := hcells j 0 _ (bcells_at s j hj)
      cases g4
      exact ⟨ad, g1, by simpa using g3⟩
    refine ⟨str s, ?_, .lit _ rfl⟩
    simp only [execOp, ho, h1, Sem.run_bind]
    rw [run_convert_bytes_string w A B e _ _ c hs he hd']
    cases A' with
    | none =>
      have : s = [] := by
        cases s with
        | nil => rfl
        | cons x r =>
          obtain ⟨ad, hA, _⟩ := hcell 0 (by simp)
          cases hA
      subst this
      simp [Conv.bytesToString]
      rfl
    | some ad =>
      have hl : (loadCells ad s.length).run P w = .ok ((s.map (fun x => (x.toNat : Int))).map (Value.int .u8)).toArray w := by
        have := run_loadCells_list (P := P) w ad ((s.map (fun x => (x.toNat : Int))).map (Value.int .u8)) (fun j v hj => by
          rw [List.getElem?_map, List.getElem?_map] at hj
          have hjl : j < s.length := by
            rcases Nat.lt_or_ge j s.length with h1 | h1
            · exact h1
            · rw [List.getElem?_eq_none h1] at hj; simp at hj
          rw [List.getElem?_eq_getElem hjl] at hj
          obtain ⟨ad', hA, hc⟩ := hcell j hjl
          cases hA
          simpa [hc] using hj)
        simpa using this
      rw [run_bytesToString w _ _ c _ hl, bytes_fold]
      rfl
end

end Go.Proofs.YtoadmjnaakbljaaDoor
