/- A cut between two parts of the code; maps: asked with ok, a key's value changed. -/
import Derived.Test.YtlagglkpbnbmeaaSh18
namespace Go.Proofs.Ytlagglkpbnbmeaa
open Go Go.RowKit
set_option linter.unusedVariables false

section
variable {P : Program} {n : Nat} {ins : List Nat} {l : List (Nat × F)} {K : Cont}
theorem J_mono {K' : Cont} {c : Code} (h : ∀ x l', K x l' → K' x l') (hJ : J P n ins l c K) : J P n ins l c K' :=
  fun ro e Q h1 h2 hK a w hR => hJ ro e Q h1 h2 (fun x l' a w hx => hK x l' a w (h x l' hx)) a w hR
def cutK {α : Type} (I : α → List (Nat × F)) (K : Cont) : Cont
  | .normal, l => ∃ p, sub (I p) l
  | x, l => K x l
theorem cut_in {α : Type} {I : α → List (Nat × F)} {K : Cont} {l : List (Nat × F)} (p : α) (h : sub (I p) l) : cutK I K .normal l := ⟨p, h⟩
theorem J_cutF {α : Type} (I : α → List (Nat × F)) (fix : List (Nat × F)) {x y : Code} (h0 : sub fix l) (hx : J P n ins l x (cutK (fun p => I p ++ fix) K)) (hy : ∀ p, J P n ins (I p ++ fix) y K) : J P n ins l (.seq x y) K :=
  J_seq (J_mono (fun z l' hz => by
    cases z with
    | normal => obtain ⟨p, hp⟩ := hz; exact J_weak _ hp (hy p)
    | exit i => exact hz
    | goto i => exact hz
    | ret => exact hz
    | panic i => exact hz
    | outgrown => exact hz) hx)
end

section
variable {P : Program} {o : Oper} {l : List (Nat × F)} {d : Nat}
theorem r_lookupOk {T : TypeId} {x y : Operand} {v : Nat} {dk : TypeDesc} {es : List (Value × Int)} {k : Value} (n : Int) (b : Bool) (ho : o.op = .lookup T x y true) (hd : o.dst = some d) (hT : mapKI P T = some dk) (hx : opd l x = some (.ptr v mapT)) (hv : find l v = some (.var mapT (vmap es))) (hy : opd l y = some (.c (.lit k)))
    (hk : MapKept.IsKey dk k) (hks : ∀ p, p ∈ es → MapKept.IsKey dk p.1) (hn : ((∀ p, p ∈ es → p.1 ≠ k) ∧ n = 0 ∧ b = false) ∨ ((∃ p, p ∈ es ∧ p.1 = k) ∧ (∀ p, p ∈ es → p.1 = k → p.2 = n) ∧ b = true)) :
    Does P o (rdOf x ++ rdOf y ++ [v]) [] l [(d, .tup [.c (.lit (.int .i64 n)), .c (.lit (.bool b))])] :=
  Does.val hd trivial fun S ρ tv a w hview => by
    have h1 : a.eval x = .map (some (ρ v)) := hview.fv hx (fun _ h => List.mem_append_left _ (List.mem_append_left _ h)) (by intro T xs e; cases e)
    have h2 : a.eval y = k := lit_val (hview.fv hy (fun _ h => List.mem_append_left _ (List.mem_append_right _ h)) (by intro T xs e; cases e))
    obtain ⟨vs, hb, hc⟩ := hview.vr v _ _ hv (List.mem_append_right _ (by simp))
    rw [vmap_in hc, objV_map] at hb
    obtain ⟨kt, et, hu, hku, hz⟩ := mapKI_some hT
    have hks' : ∀ q, q ∈ entsOf es 0 → MapKept.IsKey dk q.key := fun q hq => by
      obtain ⟨p, hp, hp2, _⟩ := entsOf_mem hq
      rw [hp2]; exact hks p hp
    refine ⟨.tuple #[.int .i64 n, .bool b], ?_, [.int .i64 n, .bool b], rfl, .lit _ rfl, .lit _ rfl, trivial⟩
    rcases MapKept.findNow_spec hk (entsOf es 0) 0 hks' with ⟨h3, h4⟩ | ⟨j, e, h3, h4, h5⟩
    · obtain ⟨hn0, hb0⟩ : n = 0 ∧ b = false := by
        rcases hn with ⟨_, hn⟩ | ⟨⟨p, hp, hp2⟩, _⟩
        · exact hn
        · obtain ⟨q, hq, hq2⟩ := mem_entsOf (i := 0) hp
          exact absurd (hq2.trans hp2) (h4 q hq)
      simp [execOp, ho, h1, h2, Instr.lookup, run_underlying hu, MapKept.run_getObj_map hb, MapKept.run_checkKey hku hk, MapKept.run_findKey hku h3, hz w, hn0, hb0]
    · obtain ⟨p, hp, hp2, hp3⟩ := entsOf_mem (List.mem_of_getElem? h4)
      obtain ⟨hpn, hb0⟩ : p.2 = n ∧ b = true := by
        rcases hn with ⟨hn, _⟩ | ⟨_, hn, hb0⟩
        · exact absurd (hp2.symm.trans h5) (hn p hp)
        · exact ⟨hn p hp (hp2.symm.trans h5), hb0⟩
      simp [execOp, ho, h1, h2, Instr.lookup, run_underlying hu, MapKept.run_getObj_map hb, MapKept.run_checkKey hku hk, MapKept.run_findKey hku h3, hp3, hpn, hb0]

theorem entsOf_modify : ∀ (es : List (Value × Int)) (i j : Nat) (f : MapEntry → MapEntry) (k : Value) (n : Int), (∀ p, es[j]? = some p → ∀ q, f ⟨p.1, .int .i64 p.2, q⟩ = ⟨k, .int .i64 n, q⟩) →
    (entsOf es i).modify j f = entsOf (es.set j (k, n)) i
  | [], i, j, f, k, n, _ => by simp [entsOf]
  | p :: es, i, 0, f, k, n, h => by rw [entsOf, List.set_cons_zero, entsOf, List.modify_zero_cons, h p rfl]
  | p :: es, i, j + 1, f, k, n, h => by
    rw [entsOf, List.set_cons_succ, entsOf, List.modify_succ_cons, entsOf_modify es (i + 1) j f k n (fun q hq => h q (by simpa using hq))]
/-- a key's value is changed; the key is there -/
theorem r_mapSet {T : TypeId} {x y z : Operand} {v : Nat} {dk : TypeDesc} {es : List (Value × Int)} {k : Value} {n : Int} (j : Nat) (ho : o.op = .mapUpdate T x y z) (hd : o.dst = none) (hT : mapKI P T = some dk) (hx : opd l x = some (.ptr v mapT)) (hv : find l v = some (.var mapT (vmap es))) (hy : opd l y = some (.c (.lit k)))
    (hz : opd l z = some (.c (.lit (.int .i64 n)))) (hk : MapKept.IsKey dk k) (hks : ∀ p, p ∈ es → MapKept.IsKey dk p.1) (hj : ∃ m, es[j]? = some (k, m)) (hu1 : ∀ (i : Nat) p, es[i]? = some p → p.1 = k → i = j) :
    Does P o (v :: (rdOf x ++ rdOf y ++ rdOf z)) [] l [(v, .var mapT (vmap (es.set j (k, n))))] := by
  intro e σ a w next Q hnn hdn hσ _ hR hnext
  obtain ⟨hdf, hsz, hfr, ρ, tv, htv, hin, hvz, hrr⟩ := hR
  have hview := view_of hσ htv hrr
  have h1 : a.eval x = .map (some (ρ v)) := hview.fv hx (fun _ h => List.mem_cons_of_mem _ (List.mem_append_left _ (List.mem_append_left _ h))) (by intro T xs e; cases e)
  have h2 : a.eval y = k := lit_val (hview.fv hy (fun _ h => List.mem_cons_of_mem _ (List.mem_append_left _ (List.mem_append_right _ h))) (by intro T xs e; cases e))
  have h3 : a.eval z = .int .i64 n := lit_val (hview.fv hz (fun _ h => List.mem_cons_of_mem _ (List.mem_append_right _ h)) (by intro T xs e; cases e))
  have hxσ : σ v = some (.var mapT (vmap es)) := by rw [hσ v (by simp)]; exact hv
  obtain ⟨vs, hb, hc⟩ := hrr.rel v _ hxσ
  rw [vmap_in hc, objV_map] at hb
  obtain ⟨kt, et, hu, hku, _⟩ := mapKI_some hT
  have hks' : ∀ q, q ∈ entsOf es 0 → MapKept.IsKey dk q.key := fun q hq => by
    obtain ⟨p, hp, hp2, _⟩ := entsOf_mem hq
    rw [hp2]; exact hks p hp
  obtain ⟨m, hm⟩ := hj
  have entGet : ∀ (es : List (Value × Int)) (i j : Nat) (e : MapEntry), (entsOf es i)[j]? = some e → ∃ p, es[j]? = some p ∧ e.key = p.1 := by
    intro es
    induction es with
    | nil => intro i j e h; simp [entsOf] at h
    | cons p es ih =>
      intro i j e h
      cases j with
      | zero => simp [entsOf] at h; exact ⟨p, rfl, by rw [← h]⟩
      | succ j => rw [entsOf, List.getElem?_cons_succ] at h; simpa using ih _ _ _ h
  have hnew : objV mapT [mapW (es.set j (k, n))].toArray = .map (((entsOf es 0).toArray).modify j fun e => { e with key := k, val := .int .i64 n }) es.length := by
    rw [objV_map, List.length_set, ← entsOf_modify es 0 j (fun e => { e with key := k, val := .int .i64 n }) k n (fun p _ q => rfl)]
    congr 1
    apply Array.ext'
    simp
  have hrun : (execOp a.eval o).run P w = .ok .skip { w with heap := w.heap.setIfInBounds (ρ v) (objV mapT [mapW (es.set j (k, n))].toArray) } := by
    rcases MapKept.findNow_spec hk (entsOf es 0) 0 hks' with ⟨_, h4⟩ | ⟨i, e', h4, h5, h6⟩
    · obtain ⟨q, hq, hq2⟩ := mem_entsOf (i := 0) (List.mem_of_getElem? hm)
      exact absurd hq2 (h4 q hq)
    · obtain ⟨p, hp, hp2⟩ := entGet es 0 i e' h5
      have hij : i = j := hu1 i p hp (hp2.symm.trans h6)
      subst hij
      rw [Nat.zero_add] at h4
      rw [hnew]
      simp [execOp, ho, h1, h2, h3, Instr.mapUpdate, run_underlying hu, MapKept.run_getObj_map hb, MapKept.run_checkKey hku hk, MapKept.run_findKey hku h4, h5, h6, MapKept.run_keyThatStays hk, MapKept.run_setObj_map _ hb]
  unfold wq
  rw [hrun, uq_skip, hd]
  obtain ⟨g1, g2⟩ := MapKept.heap_set (o' := objV mapT [mapW (es.set j (k, n))].toArray) hb
  obtain ⟨q1, q2⟩ := hrr.write (w' := { w with heap := w.heap.setIfInBounds (ρ v) (objV mapT [mapW (es.set j (k, n))].toArray) }) (ys := vmap (es.set j (k, n))) hxσ (by simp) (fun k' hk' => g2 k' hk') g1 (vmap_of _)
  refine hnext _ _ ⟨hdf, hsz, hfr.write (b := ρ v) ⟨rfl, rfl, rfl⟩ (by simp) (fun k' hk' => g2 k' hk') (fun hlt p hp => ?_), ρ, tv, htv, hin, fun p hp => hvz p (q2 p hp), q1⟩
  rcases hvz p ⟨v, _, hxσ, by rw [hp]; rfl, Nat.zero_le _⟩ with h5 | h5
  · exact h5
  · omega
end

end Go.Proofs.Ytlagglkpbnbmeaa
