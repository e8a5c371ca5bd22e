/- Shadows: rows of the call's own, and what grows. -/
import Derived.Test.YtoadmjnaakbljaaDoorSh9
import Derived.Deep.DeepAppendRoom
import Derived.Lib.AppendStr
namespace Go.Proofs.YtoadmjnaakbljaaDoor
set_option linter.unusedVariables false
open Go Go.RowKit

/-- a row of the call's own: a new one, or one that another key held -/
theorem RR.same2 {V : Addr → Prop} {ρ ρ' : Nat → Nat} {tv tv' : Nat → Value} {w w' : World} {σ : Sta} (h : RR V ρ tv w σ) {k : Nat} {f : F} (hf : σ k = some f) (ht : tv' k = tv k) (hg : ∀ T xs, f = .var T xs → ∀ g, 1000 ≤ g → C.gh g ∈ xs → tv' g = tv g)
    (hρ : ∀ T xs, f = .var T xs → ρ' k = ρ k) (hp : ∀ x o, f = .ptr x o → ρ' x = ρ x) (hb : ∀ b, ex ρ tv k f = some b → w'.heap[b]? = w.heap[b]?) : Same ρ ρ' tv tv' w w' k f := by
  cases f with
  | var T xs =>
    obtain ⟨vs, _, h2⟩ := h.rel k _ hf
    exact ⟨hρ T xs rfl, hb _ rfl, fun g hm => hg T xs rfl g (h2.ghosts g hm).1 hm⟩
  | ptr x o => exact ⟨ht, hp x o rfl⟩
  | own T sz els => exact ⟨ht, fun b hb' => hb b hb'⟩
  | _ => exact ht
theorem RR.own {V : Addr → Prop} {ρ : Nat → Nat} {tv : Nat → Value} {w w' : World} {σ : Sta} (h : RR V ρ tv w σ) {t d : Nat} (hd : d < 1000 ∨ ∀ k T xs, σ k = some (.var T xs) → C.gh d ∉ xs) {T : TypeId} {sz : Nat} {els : List (List D)} {v : Value} {us : List Value} (Z : Addr → Prop)
    (hZ : ∀ p, Z p → ∃ f, σ t = some f ∧ ex ρ tv t f = some p.block ∧ lo f ≤ p.off) (hsz : w.heap.size ≤ w'.heap.size) (hc : ∀ p : Addr, p.block < w.heap.size → ¬ Z p → w'.cell? p = w.cell? p)
    (hb : ∀ b, b < w.heap.size → (∀ f, σ t = some f → ex ρ tv t f ≠ some b) → w'.heap[b]? = w.heap[b]?) (hown : w'.ownsRow 0 T sz v els.length us) (hr : ∀ r, r ∈ els → r.length = sz) (hl : LIn (cold V σ ρ tv w) w els.flatten us)
    (hv1 : ∀ p : Addr, v.ownBlock = some p.block → els.length * sz ≤ p.off → Z p ∨ w.heap.size ≤ p.block) (hv2 : ∀ b, v.ownBlock = some b → (∃ f, σ t = some f ∧ ex ρ tv t f = some b) ∨ w.heap.size ≤ b) :
    RR V ρ (setv tv d v) w' (upd σ [(d, .own T sz els), (t, .non)]) ∧ ∀ p, vol (upd σ [(d, .own T sz els), (t, .non)]) ρ (setv tv d v) p → vol σ ρ tv p ∨ w.heap.size ≤ p.block := by
  have hnew : ∀ k g, upd σ [(d, .own T sz els), (t, .non)] k = some g → (k = d ∧ g = .own T sz els) ∨ g = .non ∨ (k ≠ d ∧ k ≠ t ∧ σ k = some g) := by
    intro k g hk
    unfold upd at hk
    simp only [find_cons] at hk
    by_cases h1 : d = k
    · rw [if_pos h1] at hk; cases hk; exact .inl ⟨h1.symm, rfl⟩
    · rw [if_neg h1] at hk
      by_cases h2 : t = k
      · rw [if_pos h2] at hk; cases hk; exact .inr (.inl rfl)
      · rw [if_neg h2] at hk
        exact .inr (.inr ⟨fun e => h1 e.symm, fun e => h2 e.symm, hk⟩)
  have hex : ∀ k g b, upd σ [(d, .own T sz els), (t, .non)] k = some g → ex ρ (setv tv d v) k g = some b → (k = d ∧ g = .own T sz els ∧ v.ownBlock = some b) ∨ (k ≠ d ∧ k ≠ t ∧ σ k = some g ∧ ex ρ tv k g = some b) := by
    intro k g b hk hb
    rcases hnew k g hk with ⟨h1, h2⟩ | rfl | ⟨h1, h2, h3⟩
    · subst h1 h2
      simp only [ex, setv_same] at hb
      exact .inl ⟨rfl, rfl, hb⟩
    · cases hb
    · refine .inr ⟨h1, h2, h3, ?_⟩
      cases g <;> simp only [ex, setv_other _ _ _ h1] at hb ⊢ <;> exact hb
  have hvol : ∀ p, vol (upd σ [(d, .own T sz els), (t, .non)]) ρ (setv tv d v) p → vol σ ρ tv p ∨ w.heap.size ≤ p.block := by
    rintro p ⟨k, g, h1, h2, h3⟩
    rcases hex k g _ h1 h2 with ⟨rfl, rfl, h4⟩ | ⟨_, _, h4, h5⟩
    · rcases hv1 p h4 h3 with h5 | h5
      · obtain ⟨f, h6, h7, h8⟩ := hZ p h5
        exact .inl ⟨t, f, h6, h7, h8⟩
      · exact .inr h5
    · exact .inl ⟨k, g, h4, h5, h3⟩
  have hZc : ∀ p, cold V σ ρ tv w p → ¬ Z p := fun p hp hz => by
    obtain ⟨f, h6, h7, h8⟩ := hZ p hz
    exact hp.2.2 ⟨t, f, h6, h7, h8⟩
  have hcold : ∀ p, cold V σ ρ tv w p → cold V (upd σ [(d, .own T sz els), (t, .non)]) ρ (setv tv d v) w' p := fun p hp => ⟨Nat.lt_of_lt_of_le hp.1 hsz, hp.2.1, fun e => by
    rcases hvol p e with h1 | h1
    · exact hp.2.2 h1
    · have := hp.1; omega⟩
  have hcell : ∀ p, cold V σ ρ tv w p → w'.cell? p = w.cell? p := fun p hp => hc p hp.1 (hZc p hp)
  have hlt : ∀ b, v.ownBlock = some b → b < w'.heap.size := fun b hb' => (hown.lt b hb').2
  refine ⟨h.to hsz (fun p hp => ⟨(hcold p hp).2.2, hcell p hp⟩) (fun k g hk => ?_) (fun k g k' g' b h1 h2 h3 h4 => ?_) (fun k g b h1 h2 => ?_), hvol⟩
  · rcases hnew k g hk with ⟨h1, h2⟩ | rfl | ⟨h1, h2, h3⟩
    · subst h1 h2
      refine .inr (KV.fv ?_)
      rw [setv_same]
      exact ⟨us, hown, hr, hl.mono hcold hcell⟩
    · exact .inr trivial
    · refine .inl ⟨h3, h.same2 h3 (setv_other _ _ _ h1) (fun T xs e2 g hg hm => setv_other _ _ _ (by
        rcases hd with hd | hd
        · omega
        · intro e3; subst e2 e3; exact hd k T xs h3 hm)) (fun _ _ _ => rfl) (fun _ _ _ => rfl) (fun b hx => hb b (h.exb k g b h3 hx).1 (fun f hf hx' => h2 (h.dist _ _ _ _ _ h3 hf hx hx')))⟩
  · rcases hex _ _ _ h1 h3 with ⟨a1, a2, a3⟩ | ⟨a1, a2, a3, a4⟩ <;> rcases hex _ _ _ h2 h4 with ⟨b1, b2, b3⟩ | ⟨b1, b2, b3, b4⟩
    · rw [a1, b1]
    · exfalso
      rcases hv2 b a3 with ⟨f, c1, c2⟩ | c1
      · exact b2 (h.dist _ _ _ _ _ b3 c1 b4 c2)
      · have := (h.exb _ _ _ b3 b4).1; omega
    · exfalso
      rcases hv2 b b3 with ⟨f, c1, c2⟩ | c1
      · exact a2 (h.dist _ _ _ _ _ a3 c1 a4 c2)
      · have := (h.exb _ _ _ a3 a4).1; omega
    · exact h.dist _ _ _ _ _ a3 b3 a4 b4
  · rcases hex _ _ _ h1 h2 with ⟨a1, a2, a3⟩ | ⟨a1, a2, a3, a4⟩
    · refine ⟨hlt b a3, fun p hp hV => ?_⟩
      rcases hv2 b a3 with ⟨f, c1, c2⟩ | c1
      · exact (h.exb _ _ _ c1 c2).2 p hp hV
      · have := h.vb p hV; omega
    · have := h.exb _ _ _ a3 a4
      exact ⟨Nat.lt_of_lt_of_le this.1 hsz, this.2⟩

theorem R.own {e : Env} {σ : Sta} {a : Act} {w w' : World} {ρ : Nat → Nat} {tv : Nat → Value} (hdf : a.defers = []) (hsz : a.tmps.size = e.n) (hfr : Fr e.vol0 e.w0 w') (htv : ∀ t, t < 1000 → tv t = a.tmps.getD t undef)
    (hin : ∀ x, x ∈ e.ins → ρ x = e.ρ0 x) (hvz : ∀ p, vol σ ρ tv p → e.vol0 p ∨ e.w0.heap.size ≤ p.block) (hle : e.w0.heap.size ≤ w.heap.size) {d t : Nat} (hd : d < e.n) (hn : e.n ≤ 1000) {T : TypeId} {sz : Nat} {els : List (List D)} {v : Value}
    (h : RR e.V ρ (setv tv d v) w' (upd σ [(d, .own T sz els), (t, .non)]) ∧ ∀ p, vol (upd σ [(d, .own T sz els), (t, .non)]) ρ (setv tv d v) p → vol σ ρ tv p ∨ w.heap.size ≤ p.block) :
    R e (upd σ [(d, .own T sz els), (t, .non)]) (a.put (some d) v) w' := by
  refine ⟨by rw [put_defers]; exact hdf, by rw [put_size]; exact hsz, hfr, ρ, setv tv d v, fun t ht => ?_, hin, fun p hv => ?_, h.1⟩
  · rw [put_getD _ _ _ (by omega), setv, htv t ht]
  · rcases h.2 p hv with h1 | h1
    · exact hvz p h1
    · exact .inr (by omega)

section
variable {P : Program} {o : Oper} {l : List (Nat × F)} {d : Nat}

theorem r_pickT {x y z : Operand} {f : F} (ho : o.op = .pick x y z) (hd : o.dst = some d) (hx : opd l x = some (.c (.lit (.bool true)))) (hy : opd l y = some f) (hp : Plain f) : Does P o (rdOf x ++ rdOf y) [] l [(d, f)] :=
  Does.val hd hp fun S ρ tv a w hv => by
    have e1 := lit_val (hv.fv hx (fun _ h => List.mem_append_left _ h) (by intro T xs e; cases e))
    refine ⟨a.eval y, ?_, hv.fv hy (fun _ h => List.mem_append_right _ h) (by intro T xs e; rw [e] at hp; exact hp)⟩
    simp only [execOp, ho, e1, asBool, Sem.run_bind, Sem.run_pure, Result.andThen_ok, if_true]
theorem r_pickF {x y z : Operand} {f : F} (ho : o.op = .pick x y z) (hd : o.dst = some d) (hx : opd l x = some (.c (.lit (.bool false)))) (hy : opd l z = some f) (hp : Plain f) : Does P o (rdOf x ++ rdOf z) [] l [(d, f)] :=
  Does.val hd hp fun S ρ tv a w hv => by
    have e1 := lit_val (hv.fv hx (fun _ h => List.mem_append_left _ h) (by intro T xs e; cases e))
    refine ⟨a.eval z, ?_, hv.fv hy (fun _ h => List.mem_append_right _ h) (by intro T xs e; rw [e] at hp; exact hp)⟩
    simp only [execOp, ho, e1, asBool, Sem.run_bind, Sem.run_pure, Result.andThen_ok, Bool.false_eq_true, if_false]

def sliceT (P : Program) (T : TypeId) : Bool := match P.underlying T with | some (.slice _) => true | _ => false
def stringT (P : Program) (T : TypeId) : Bool := match P.underlying T with | some .string => true | _ => false
theorem run_len {x : Operand} {T : TypeId} (ho : o.op = .call { callee := .builtin .len, args := #[x], argTypes := #[T] }) {a : Act} {w : World} {v : Value} (h : (Builtin.len_ #[T] o.type #[a.eval x]).run P w = .ok v w) : (execOp a.eval o).run P w = .ok (.value v) w := by
  simp only [execOp, ho, resolve, Sem.run_bind, Sem.run_pure, Result.andThen_ok, invoke, builtin, List.map_toArray, List.map_cons, List.map_nil, h]
theorem r_len {x : Operand} {T : TypeId} {sz : Nat} {els : List (List D)} (ho : o.op = .call { callee := .builtin .len, args := #[x], argTypes := #[T] }) (hd : o.dst = some d) (hT : sliceT P T = true) (hx : opd l x = some (.c (.sl sz els))) :
    Does P o (rdOf x) [] l [(d, .c (.lit (.int .i64 els.length)))] :=
  Does.val hd trivial fun S ρ tv a w hv => by
    obtain ⟨A, c, h1, _⟩ := DIn.row (hv.fv hx (fun _ h => h) (by intro T xs e; cases e))
    refine ⟨_, run_len ho ?_, .lit _ rfl⟩
    unfold sliceT at hT
    cases hu : P.underlying T with
    | none => simp [hu] at hT
    | some dd => cases dd <;> simp_all [Builtin.len_, run_underlying hu w, goInt]
theorem r_lenNil {x : Operand} {T : TypeId} {A : Option Addr} {n c : Nat} (ho : o.op = .call { callee := .builtin .len, args := #[x], argTypes := #[T] }) (hd : o.dst = some d) (hT : sliceT P T = true) (hx : opd l x = some (.c (.lit (.slice A n c)))) :
    Does P o (rdOf x) [] l [(d, .c (.lit (.int .i64 n)))] :=
  Does.val hd trivial fun S ρ tv a w hv => by
    have h1 := lit_val (hv.fv hx (fun _ h => h) (by intro T xs e; cases e))
    refine ⟨_, run_len ho ?_, .lit _ rfl⟩
    unfold sliceT at hT
    cases hu : P.underlying T with
    | none => simp [hu] at hT
    | some dd => cases dd <;> simp_all [Builtin.len_, run_underlying hu w, goInt]
theorem r_lenOwn {x : Operand} {T T' : TypeId} {sz : Nat} {els : List (List D)} (ho : o.op = .call { callee := .builtin .len, args := #[x], argTypes := #[T] }) (hd : o.dst = some d) (hT : sliceT P T = true) (hx : opd l x = some (.own T' sz els)) :
    Does P o (rdOf x) [] l [(d, .c (.lit (.int .i64 els.length)))] :=
  Does.val hd trivial fun S ρ tv a w hv => by
    obtain ⟨us, h1, _⟩ := hv.fv hx (fun _ h => h) (by intro T xs e; cases e)
    have h2 : ∃ A c, a.eval x = .slice A els.length c := by
      rcases h1.2 with ⟨h2, h3⟩ | ⟨g, cap, cur, h2, _⟩
      · exact ⟨none, 0, by rw [h2, h3]⟩
      · exact ⟨_, _, h2⟩
    obtain ⟨A, c, h2⟩ := h2
    refine ⟨_, run_len ho ?_, .lit _ rfl⟩
    unfold sliceT at hT
    cases hu : P.underlying T with
    | none => simp [hu] at hT
    | some dd => cases dd <;> simp_all [Builtin.len_, run_underlying hu w, goInt]
theorem r_lenS {x : Operand} {T : TypeId} {s : List UInt8} (ho : o.op = .call { callee := .builtin .len, args := #[x], argTypes := #[T] }) (hd : o.dst = some d) (hT : stringT P T = true) (hx : opd l x = some (.c (.lit (str s)))) :
    Does P o (rdOf x) [] l [(d, .c (.lit (.int .i64 s.length)))] :=
  Does.val hd trivial fun S ρ tv a w hv => by
    have h1 := lit_val (hv.fv hx (fun _ h => h) (by intro T xs e; cases e))
    refine ⟨_, run_len ho ?_, .lit _ rfl⟩
    unfold stringT at hT
    cases hu : P.underlying T with
    | none => simp [hu] at hT
    | some dd =>
      rw [hu] at hT
      cases dd with
      | string =>
        rw [h1]
        simp only [Builtin.len_, Sem.run_bind, List.getElem?_toArray, List.getElem?_cons_zero, run_underlying hu w, Result.andThen_ok, Sem.run_pure]
        rfl
      | _ => cases hT

/-! slice literals -/
theorem flatten_at {α : Type} : ∀ (els : List (List α)) (sz : Nat), (∀ r, r ∈ els → r.length = sz) → ∀ (i j : Nat), j < sz → els.flatten[i * sz + j]? = (els[i]?).bind (·[j]?)
  | [], sz, _, i, j, _ => by simp
  | r :: els, sz, h, i, j, hj => by
    have hr := h r (List.mem_cons_self ..)
    rw [List.flatten_cons]
    cases i with
    | zero => rw [List.getElem?_append_left (by omega)]; simp
    | succ i =>
      have e : (i + 1) * sz + j = r.length + (i * sz + j) := by rw [Nat.add_mul, hr]; omega
      rw [e, List.getElem?_append_right (by omega), Nat.add_sub_cancel_left, flatten_at els sz (fun r hr => h r (List.mem_cons_of_mem _ hr)) i j hj]
      simp
theorem flatten_len {α : Type} : ∀ (els : List (List α)) (sz : Nat), (∀ r, r ∈ els → r.length = sz) → els.flatten.length = els.length * sz
  | [], _, _ => by simp
  | r :: els, sz, h => by
    rw [List.flatten_cons, List.length_append, flatten_len els sz (fun r hr => h r (List.mem_cons_of_mem _ hr)), h r (List.mem_cons_self ..), List.length_cons, Nat.add_mul]
    omega
/-- a row known by its cells -/
theorem DIn.rows {S : Addr → Prop} {w : World} {sz : Nat} {els : List (List D)} {ad : Addr} {c : Nat} {us : List Value} (hc : els.length ≤ c) (hr : ∀ r, r ∈ els → r.length = sz) (hl : LIn S w els.flatten us) (hcell : ∀ j u, us[j]? = some u → S (ad.add j) ∧ w.cell? (ad.add j) = some u) :
    DIn S w (.sl sz els) (.slice (some ad) els.length c) :=
  .ofRow rfl hc (fun _ => ⟨ad, rfl⟩) hr fun i j dd hd => by
    have hj : j < sz := by
      unfold D.at at hd
      cases hi : els[i]? with
      | none => rw [hi] at hd; cases hd
      | some r =>
        rw [hi] at hd
        have := hr r (List.mem_of_getElem? hi)
        rcases Nat.lt_or_ge j sz with h | h
        · exact h
        · simp only [Option.bind_some] at hd
          rw [List.getElem?_eq_none (by omega)] at hd; cases hd
    obtain ⟨u, h1, h2⟩ := hl.get (i * sz + j) dd (by rw [flatten_at els sz hr i j hj]; exact hd)
    obtain ⟨h3, h4⟩ := hcell _ u h1
    exact ⟨ad, u, rfl, h3, h4, h2⟩
def rowsOK (sz : Nat) (els : List (List D)) : Bool := els.all fun r => Nat.beq r.length sz
theorem rowsOK_ok {sz : Nat} {els : List (List D)} (h : rowsOK sz els = true) : ∀ r, r ∈ els → r.length = sz := by
  intro r hr
  unfold rowsOK at h
  rw [List.all_eq_true] at h
  exact Nat.eq_of_beq_eq_true (h r hr)
def litPlace (sz i : Nat) : Option (Nat × Nat) := some (i * sz, sz)
theorem run_buildSl {T e : TypeId} {n sz : Nat} {parts : Array (Nat × Operand)} {zs : List Value} {ps : List (Nat × List D)} {els : List (List D)} (ho : o.op = .buildSlice T n parts) (hT : elemOf? P T = some (e, sz)) (hz : zeroT P e = some zs) (hsm : (Nat.ble (n * sz) 16777216 && !Nat.beq (n * sz) 0 && Nat.beq zs.length sz) = true)
    (hp : partsD l parts.toList = some ps) (hf : fillD (litPlace sz) (List.replicate (n * sz) .any) ps = some els.flatten) {S : Addr → Prop} {ρ : Nat → Nat} {tv : Nat → Value} {a : Act} {w : World} (hv : View l (rdsOf parts.toList) S ρ tv a w) :
    ∃ us : List Value, (execOp a.eval o).run P w = .ok (.value (.slice (some ⟨w.heap.size, 0, none⟩) n n)) (w.alloc (.cells us.toArray e)) ∧ LIn S w els.flatten us := by
  simp only [Bool.and_eq_true, Bool.not_eq_true'] at hsm
  obtain ⟨⟨h1, h2⟩, h3⟩ := hsm
  have h1' := Nat.le_of_ble_eq_true h1
  have h2' : n * sz ≠ 0 := fun e => by rw [e] at h2; cases h2
  have h3' := Nat.eq_of_beq_eq_true h3
  obtain ⟨hu, hs⟩ := elemOf?_some hT
  obtain ⟨z, hz1, hz2, hz3⟩ := zeroT_some hz
  unfold zeroT at hz
  cases hi : P.info? e with
  | none => simp [hi] at hz
  | some ie =>
    have hsz : ie.size = sz := by unfold sizeT at hs; simpa [hi] using hs
    have hzz : ie.zero = some z := by
      have := hz1 w
      simp [zeroValue, typeInfo, hi] at this
      cases hq : ie.zero with
      | none => simp [hq] at this
      | some z' => simp [hq] at this; rw [this]
    have hpos : 0 < sz := by
      rcases Nat.eq_zero_or_pos sz with h | h
      · rw [h] at h2'; simp at h2'
      · exact h
    let arr : Array Value := (Array.range (n * sz)).map (z.cells[· % z.cells.size]!)
    have harr : LIn S w (List.replicate (n * sz) .any) arr.toList := LIn.of (by simp [arr]) fun j dd v hd' hv' => by
      have hd2 : dd = .any := by
        have := List.mem_of_getElem? hd'
        exact (List.mem_replicate.1 this).2
      subst hd2
      refine .any v ?_
      simp only [arr, Array.toList_map, Array.toList_range, List.getElem?_map] at hv'
      cases hr : (List.range (n * sz))[j]? with
      | none => rw [hr] at hv'; cases hv'
      | some i =>
        rw [hr] at hv'
        simp only [Option.map_some, Option.some.injEq] at hv'
        rw [← hv']
        have hlt : i % z.cells.size < z.cells.size := Nat.mod_lt _ (by rw [hz2, List.size_toArray, h3']; exact hpos)
        rw [getElem!_pos z.cells _ hlt]
        exact hz3 _ (by
          have := Array.getElem_mem (xs := z.cells) hlt
          rw [← Array.mem_toList_iff] at this
          have e1 : z.cells.toList = zs := by rw [hz2]
          rw [← e1]
          exact this)
    obtain ⟨us, h4, h5⟩ := fill_ok (l := l) (S := S) (w := w) (ρ := ρ) (a := a) (place := litPlace sz) parts.toList ps _ arr.toList els.flatten (fun x hx f g1 g2 => hv.fv g1 (fun k hk => by
      unfold rdsOf
      exact List.mem_flatMap.2 ⟨x, hx, hk⟩) g2) hp harr hf
    refine ⟨us, ?_, h5⟩
    have h6 : Instr.fill (fun i => some (i * ie.size, ie.size)) ((Array.range (n * ie.size)).map (z.cells[· % z.cells.size]!)) (parts.map fun (i, x) => (i, a.eval x)).toList = some us.toArray := by
      rw [hsz, Array.toList_map]
      have e1 : arr.toList.toArray = arr := by simp
      rw [e1] at h4
      exact h4
    have h7 := run_buildSlice (P := P) w T e n (parts.map fun (i, x) => (i, a.eval x)) us.toArray ie z hu hi hzz (by rw [hsz]; omega) (by rw [hsz]; omega) h6
    simp only [execOp, ho, Sem.run_bind, h7, Result.andThen_ok]
    rfl
theorem fillD_len {place : Nat → Option (Nat × Nat)} : ∀ (ps : List (Nat × List D)) (cs out : List D), fillD place cs ps = some out → out.length = cs.length
  | [], cs, out, h => by cases h; rfl
  | (i, us) :: r, cs, out, h => by
    rw [fillD] at h
    split at h
    · cases h
    · rename_i off size _
      cases hb : (Nat.beq us.length size && Nat.ble (off + us.length) cs.length) with
      | false => rw [hb] at h; cases h
      | true =>
        rw [hb, cond_true] at h
        rw [Bool.and_eq_true] at hb
        have := Nat.le_of_ble_eq_true hb.2
        rw [fillD_len r _ _ h]
        simp
        omega
theorem r_buildSlice {T e : TypeId} {n sz : Nat} {parts : Array (Nat × Operand)} {zs : List Value} {ps : List (Nat × List D)} (els : List (List D)) (ho : o.op = .buildSlice T n parts) (hd : o.dst = some d) (hT : elemOf? P T = some (e, sz)) (hz : zeroT P e = some zs) (hsm : (Nat.ble (n * sz) 16777216 && !Nat.beq (n * sz) 0 && Nat.beq zs.length sz) = true)
    (hp : partsD l parts.toList = some ps) (hf : fillD (litPlace sz) (List.replicate (n * sz) .any) ps = some els.flatten) (hr : (rowsOK sz els && Nat.beq els.length n) = true) : Does P o (rdsOf parts.toList) [] l [(d, .c (.sl sz els))] :=
  Does.newRow hd trivial fun S ρ tv a w hv => by
    rw [Bool.and_eq_true] at hr
    have hr1 := rowsOK_ok hr.1
    have hr2 := Nat.eq_of_beq_eq_true hr.2
    obtain ⟨us, h1, h2⟩ := run_buildSl ho hT hz hsm hp hf hv
    have hbl : Below w.heap.size w (w.alloc (.cells us.toArray e)) := (Below.refl _ _).alloc (Nat.le_refl _) _
    refine ⟨_, _, h1, hbl, fun S' h3 h4 h5 => ?_⟩
    show DIn S' _ _ _
    rw [← hr2]
    refine DIn.rows (Nat.le_refl _) hr1 (h2.mono h3 (fun p hp => hbl.cell (h5 p hp))) (fun j u hj => ?_)
    rw [addr_add, Nat.zero_add]
    refine ⟨h4 _ (Nat.le_refl _) (by simp), ?_⟩
    rw [World.cell?_alloc_new]
    simpa using hj
theorem r_buildSliceOwn {T e : TypeId} {n sz : Nat} {parts : Array (Nat × Operand)} {zs : List Value} {ps : List (Nat × List D)} (els : List (List D)) (ho : o.op = .buildSlice T n parts) (hd : o.dst = some d) (hT : elemOf? P T = some (e, sz)) (hz : zeroT P e = some zs) (hsm : (Nat.ble (n * sz) 16777216 && !Nat.beq (n * sz) 0 && Nat.beq zs.length sz) = true)
    (hp : partsD l parts.toList = some ps) (hf : fillD (litPlace sz) (List.replicate (n * sz) .any) ps = some els.flatten) (hr : (rowsOK sz els && Nat.beq els.length n) = true) (hn : Nat.ble n 16777216 = true) : Does P o (rdsOf parts.toList) [] l [(d, .own e sz els), (d, .non)] := by
  intro en σ a w next Q hnn hdn hσ _ hR hnext
  obtain ⟨hdf, hsz, hfr, ρ, tv, htv, hin, hvz, hrr⟩ := hR
  rw [Bool.and_eq_true] at hr
  have hr1 := rowsOK_ok hr.1
  have hr2 := Nat.eq_of_beq_eq_true hr.2
  have hn' := Nat.le_of_ble_eq_true hn
  obtain ⟨us, h1, h2⟩ := run_buildSl ho hT hz hsm hp hf (view_of hσ htv hrr)
  have hbl : Below w.heap.size w (w.alloc (.cells us.toArray e)) := (Below.refl _ _).alloc (Nat.le_refl _) _
  unfold Oper.wp
  rw [h1, Oper.upon_value, hd]
  have hlen : us.length = els.length * sz := by rw [← h2.len, flatten_len els sz hr1]
  have hdlt : d < 1000 := Nat.lt_of_lt_of_le (hdn d hd) hnn
  refine hnext _ _ (R.own (w := w) hdf hsz (hfr.grow hbl) htv hin hvz hfr.size (hdn d hd) hnn (hrr.own (.inl hdlt) (fun _ => False) (fun p hp => hp.elim) hbl.size (fun p hp _ => hbl.cell hp) (fun b hb _ => hbl.block b hb) (us := us) ?_ hr1 h2 (fun p hp _ => .inr ?_) (fun b hb => .inr ?_)))
  · refine ⟨hlen, .inr ⟨w.heap.size, n, us.toArray, by rw [hr2], Nat.zero_le _, heap_alloc_new w _, by omega, by unfold maxLen; omega, by simp; rw [hlen, hr2], ?_⟩⟩
    rw [← hlen]
    simp
  · simp [Value.ownBlock] at hp; omega
  · simp [Value.ownBlock] at hb; omega
end

end Go.Proofs.YtoadmjnaakbljaaDoor
