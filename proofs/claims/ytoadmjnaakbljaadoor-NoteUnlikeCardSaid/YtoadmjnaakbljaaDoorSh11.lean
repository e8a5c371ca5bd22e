/- Shadows: appends; rows that go from key to key; what follows from what. -/
import Derived.Test.YtoadmjnaakbljaaDoorSh10
namespace Go.Proofs.YtoadmjnaakbljaaDoor
set_option linter.unusedVariables false
open Go Go.RowKit

/-- an append either stays in its block or goes to a new one -/
def Grows (w w' : World) (v v' : Value) : Prop := (∃ g, v.ownBlock = some g ∧ v'.ownBlock = some g ∧ w.grownBy w' (some g)) ∨ ((∀ b, v'.ownBlock = some b → w.heap.size ≤ b) ∧ Below w.heap.size w w')

theorem run_append_two {P : Program} (w : World) (t ty e : TypeId) (i : TypeInfo) (z : Value) (size bytes : Nat) (ht : P.underlying t = some (.slice e)) (hi : P.info? e = some i) (hz : i.zero = some z) (hsize : i.size = size) (hby : i.bytes = bytes) (hzs : z.cells.size = size) (hsz : 0 < size)
    (v : Value) (n : Nat) (xs : List Value) (hown : w.ownsRow 0 e size v n xs) (a : Addr) (m c : Nat) (news : List Value) (hl : news.length = m * size) (hnews : ∀ j u, news[j]? = some u → w.cell? (a.add j) = some u) (h1 : ∀ u ∈ news, u.oneCell' = true)
    (hbytes : (n + m) * bytes ≤ 140737488355328) (hsmall : n + m ≤ 140737488355328) : ∃ v' w', (Builtin.append_ #[t, t] ty #[v, .slice (some a) m c]).run P w = .ok v' w' ∧ w'.ownsRow 0 e size v' (n + m) (xs ++ news) ∧ Grows w w' v v' := by
  obtain ⟨v', w', hr, h2, h3, h4⟩ := run_append_own (P := P) w 0 t ty e i z size bytes ht hi hz hsize hby hzs hsz v n xs hown a m c news hl hnews h1 (by unfold maxLen; omega) hbytes (Nat.zero_le _)
  refine ⟨v', w', hr, h2, ?_⟩
  rcases hown.2 with ⟨rfl, rfl⟩ | ⟨g, cap, cur, rfl, hbg, hg, hnc, hcm, hcs, htake⟩
  · refine .inr ⟨fun b hb => ?_, ⟨h3.os, h3.tape, h3.output, h3.size, fun k hk => h3.block k hk (by simp [Value.ownBlock])⟩⟩
    by_cases hm : m = 0
    · have := h4.2 ⟨rfl, hm⟩
      rw [this] at hb
      simp [Value.ownBlock] at hb
    · have hr2 := run_append_nil (P := P) w t ty e i z ht hi hz a m c news (by rw [hsize]; exact hl) hnews (by omega) (by omega) (by rw [hby]; have hb := hbytes; simp only [Nat.zero_add] at hb; omega)
      rw [hr] at hr2
      cases hr2
      simp [Value.ownBlock] at hb
      omega
  · by_cases hroom : n + m ≤ cap
    · obtain ⟨w2, hr2, _, _⟩ := run_append_own_spare (P := P) w 0 t ty e i size ht hi hsize g n cap xs hown a m c news hl hnews h1 hroom
      rw [hr] at hr2
      cases hr2
      exact .inl ⟨g, rfl, rfl, h3⟩
    · have holds : ∀ j u, xs[j]? = some u → w.cell? ((⟨g, 0, none⟩ : Addr).add j) = some u := hown.cells (g := g) rfl
      have hr2 := run_append_grow (P := P) w t ty e i z ht hi hz ⟨g, 0, none⟩ n cap xs (by rw [hsize]; exact hown.1) holds a m c news (by rw [hsize]; exact hl) hnews (by omega) (by omega) (growslice_fits (by omega) (by rw [hby]; exact hbytes))
      rw [hr] at hr2
      cases hr2
      refine .inr ⟨fun b hb => ?_, (Below.refl _ _).drew.alloc (by simp) _⟩
      simp [Value.ownBlock] at hb
      omega
theorem run_append_twoS {P : Program} (w : World) (t u ty e : TypeId) (i : TypeInfo) (ht : P.underlying t = some (.slice e)) (hu : P.underlying u = some .string) (hi : P.info? e = some i) (hz : i.zero = some (.int .u8 0)) (hsize : i.size = 1) (hby : i.bytes = 1)
    (v : Value) (n : Nat) (xs : List Value) (hown : w.ownsRow 0 e 1 v n xs) (s : ByteArray) (hsmall : n + s.size ≤ 140737488355328) :
    ∃ v' w', (Builtin.append_ #[t, u] ty #[v, .string s]).run P w = .ok v' w' ∧ w'.ownsRow 0 e 1 v' (n + s.size) (xs ++ Lib.strCells s) ∧ Grows w w' v v' := by
  obtain ⟨v', w', hr, h2, h3, h4⟩ := Lib.run_append_own_string (P := P) w 0 t u ty e i ht hu hi hz hsize hby v n xs hown s (by unfold maxLen; omega) hsmall (Nat.zero_le _)
  refine ⟨v', w', hr, h2, ?_⟩
  rcases hown.2 with ⟨rfl, rfl⟩ | ⟨g, cap, cur, rfl, hbg, hg, hnc, hcm, hcs, htake⟩
  · refine .inr ⟨fun b hb => ?_, ⟨h3.os, h3.tape, h3.output, h3.size, fun k hk => h3.block k hk (by simp [Value.ownBlock])⟩⟩
    by_cases hm : s.size = 0
    · have := h4.2 ⟨rfl, hm⟩
      rw [this] at hb
      simp [Value.ownBlock] at hb
    · have hr2 := run_append_nil_string (P := P) w t u ty e i (.int .u8 0) ht hu hi hz s (by omega) (by omega) (by rw [hby]; omega)
      rw [hr] at hr2
      cases hr2
      simp [Value.ownBlock] at hb
      omega
  · by_cases hroom : n + s.size ≤ cap
    · have hcs' : cur.size = cap := by simpa using hcs
      have hr2 := Lib.run_append_room_string (P := P) w t u ty e i ht hu hi hsize g n cap cur hg s hroom (by omega)
      rw [hr] at hr2
      cases hr2
      exact .inl ⟨g, rfl, rfl, h3⟩
    · have holds : ∀ j u, xs[j]? = some u → w.cell? ((⟨g, 0, none⟩ : Addr).add j) = some u := hown.cells (g := g) rfl
      have hr2 := Lib.run_append_grow_string (P := P) w t u ty e i (.int .u8 0) ht hu hi hz ⟨g, 0, none⟩ n cap xs (by rw [hsize]; exact hown.1) holds s (by omega) (by omega) (growslice_fits (by omega) (by rw [hby]; omega))
      rw [hr] at hr2
      cases hr2
      refine .inr ⟨fun b hb => ?_, (Below.refl _ _).drew.alloc (by simp) _⟩
      simp [Value.ownBlock] at hb
      omega

def elemI (P : Program) (T : TypeId) : Option (TypeId × Nat × Nat) :=
  match P.underlying T with
  | some (.slice e) => (P.info? e).bind fun i => i.zero.bind fun z => bif Nat.beq z.cells.size i.size && !Nat.beq i.size 0 then some (e, i.size, i.bytes) else none
  | _ => none
theorem elemI_some {P : Program} {T e : TypeId} {n b : Nat} (h : elemI P T = some (e, n, b)) : ∃ i z, P.underlying T = some (.slice e) ∧ P.info? e = some i ∧ i.zero = some z ∧ i.size = n ∧ i.bytes = b ∧ z.cells.size = n ∧ 0 < n := by
  unfold elemI at h
  cases hu : P.underlying T with
  | none => simp [hu] at h
  | some dd =>
    rw [hu] at h
    cases dd with
    | slice e' =>
      simp only [Option.bind_eq_some_iff] at h
      obtain ⟨i, hi, z, hz, h⟩ := h
      cases hb : (Nat.beq z.cells.size i.size && !Nat.beq i.size 0) with
      | false => rw [hb] at h; cases h
      | true =>
        rw [hb] at h
        cases h
        simp only [Bool.and_eq_true, Bool.not_eq_true'] at hb
        refine ⟨i, z, rfl, hi, hz, rfl, rfl, Nat.eq_of_beq_eq_true hb.1, ?_⟩
        rcases Nat.eq_zero_or_pos i.size with h0 | h0
        · rw [h0] at hb; exact absurd hb.2 (by decide)
        · exact h0
    | _ => simp at h

/-- what an append does to the state -/
theorem append_state {e : Env} {σ : Sta} {a : Act} {w w' : World} {ρ : Nat → Nat} {tv : Nat → Value} (hdf : a.defers = []) (hsz : a.tmps.size = e.n) (hfr : Fr e.vol0 e.w0 w) (htv : ∀ t, t < 1000 → tv t = a.tmps.getD t undef)
    (hin : ∀ x, x ∈ e.ins → ρ x = e.ρ0 x) (hvz : ∀ p, vol σ ρ tv p → e.vol0 p ∨ e.w0.heap.size ≤ p.block) (h : RR e.V ρ tv w σ) {d t : Nat} (hd : d < e.n) (hn : e.n ≤ 1000) {T : TypeId} {sz : Nat} {els news : List (List D)} {v' : Value} {us nvs : List Value}
    (ht : σ t = some (.own T sz els)) (hown0 : w.ownsRow 0 T sz (tv t) els.length us) (hl0 : LIn (cold e.V σ ρ tv w) w els.flatten us) (hr0 : ∀ r, r ∈ els → r.length = sz) (hr1 : ∀ r, r ∈ news → r.length = sz) (hl1 : LIn (cold e.V σ ρ tv w) w news.flatten nvs)
    (hown : w'.ownsRow 0 T sz v' (els.length + news.length) (us ++ nvs)) (hg : Grows w w' (tv t) v') : R e (upd σ [(d, .own T sz (els ++ news)), (t, .non)]) (a.put (some d) v') w' := by
  have hulen := hown0.1
  let Z : Addr → Prop := fun p => (tv t).ownBlock = some p.block ∧ els.length * sz ≤ p.off
  have hZ : ∀ p, Z p → ∃ f, σ t = some f ∧ ex ρ tv t f = some p.block ∧ lo f ≤ p.off := fun p hp => ⟨_, ht, hp.1, hp.2⟩
  have hgb : w.grownBy w' (tv t).ownBlock := by
    rcases hg with ⟨g, h1, _, h3⟩ | ⟨_, h3⟩
    · rw [h1]; exact h3
    · exact ⟨h3.os, h3.tape, h3.output, h3.size, fun k hk _ => h3.block k hk⟩
  have hcell : ∀ p : Addr, p.block < w.heap.size → ¬ Z p → w'.cell? p = w.cell? p := by
    intro p hp hz
    rcases hg with ⟨g, h1, h2, h3⟩ | ⟨_, h3⟩
    · by_cases hpg : p.block = g
      · have hoff : p.off < els.length * sz := by
          rcases Nat.lt_or_ge p.off (els.length * sz) with h | h
          · exact h
          · exact absurd ⟨by rw [hpg]; exact h1, h⟩ hz
        rcases hown0.2 with ⟨h4, _⟩ | ⟨g', cap, cur, h4, _, h6, _⟩
        · rw [h4] at h1; simp [Value.ownBlock] at h1
        · rw [h4] at h1
          simp [Value.ownBlock] at h1
          subst h1
          rcases hown.2 with ⟨h7, _⟩ | ⟨g2, cap2, cur2, h7, _, h8, _⟩
          · rw [h7] at h2; simp [Value.ownBlock] at h2
          · rw [h7] at h2
            simp [Value.ownBlock] at h2
            subst h2
            cases hs : p.spot with
            | some sp =>
              have e1 : ∀ (W : World) (c : Array Value), W.heap[p.block]? = some (.cells c T (0, 0)) → W.cell? p = none := fun W c hW => by simp [World.cell?, hW, hs]
              rw [e1 w' cur2 (by rw [hpg]; exact h8), e1 w cur (by rw [hpg]; exact h6)]
            | none =>
              have hp' : p = (⟨g2, 0, none⟩ : Addr).add p.off := by
                rw [addr_add, Nat.zero_add]
                cases p
                simp_all
              have hlt : p.off < us.length := by omega
              rw [hp']
              have c1 := hown.cells (g := g2) (by rw [h7]; rfl) p.off us[p.off] (by rw [List.getElem?_append_left hlt, List.getElem?_eq_getElem hlt])
              have c2 := hown0.cells (g := g2) (by rw [h4]; rfl) p.off us[p.off] (List.getElem?_eq_getElem hlt)
              rw [c1, c2]
      · exact World.cell?_of_block (h3.block _ hp (by simp [hpg]))
    · exact h3.cell hp
  have hfr' : Fr e.vol0 e.w0 w' := by
    have hold : ∀ b, (tv t).ownBlock = some b → b < e.w0.heap.size → ∀ p : Addr, p.block = b → els.length * sz ≤ p.off → e.vol0 p := fun b hb hlt p hp ho => by
      rcases hvz p ⟨t, _, ht, by show (tv t).ownBlock = _; rw [hb, hp], ho⟩ with h1 | h1
      · exact h1
      · omega
    refine ⟨hgb.os.trans hfr.os, hgb.tape.trans hfr.tape, hgb.output.trans hfr.output, Nat.le_trans hfr.size hgb.size, fun p hp hnv => ?_, fun k hk hnv => ?_⟩
    · rw [hcell p (Nat.lt_of_lt_of_le hp hfr.size) (fun hz => hnv (hold _ hz.1 hp p rfl hz.2))]
      exact hfr.cell p hp hnv
    · rw [hgb.block k (Nat.lt_of_lt_of_le hk hfr.size) (fun e1 => hnv ⟨k, els.length * sz, none⟩ rfl (hold k e1.symm hk _ rfl (Nat.le_refl _)))]
      exact hfr.block k hk hnv
  have hlen2 : (els ++ news).length = els.length + news.length := List.length_append
  refine R.own (w := w) hdf hsz hfr' htv hin hvz hfr.size hd hn (h.own (.inl (by omega)) Z hZ hgb.size hcell (fun b hb hne => hgb.block b hb (fun e1 => hne _ ht e1.symm)) (us := us ++ nvs) (by rw [hlen2]; exact hown) (fun r hr => ?_) ?_ (fun p hp ho => ?_) (fun b hb => ?_))
  · rcases List.mem_append.1 hr with h1 | h1
    · exact hr0 r h1
    · exact hr1 r h1
  · rw [List.flatten_append]
    exact hl0.append hl1
  · rcases hg with ⟨g, h1, h2, _⟩ | ⟨h2, _⟩
    · refine .inl ⟨by rw [h1, ← h2]; exact hp, ?_⟩
      rw [hlen2, Nat.add_mul] at ho
      omega
    · exact .inr (h2 _ hp)
  · rcases hg with ⟨g, h1, h2, _⟩ | ⟨h2, _⟩
    · refine .inl ⟨_, ht, ?_⟩
      show (tv t).ownBlock = some b
      rw [h1, ← h2]; exact hb
    · exact .inr (h2 _ hb)

section
variable {P : Program} {o : Oper} {l : List (Nat × F)} {d : Nat}
theorem run_app {t : Nat} {x : Operand} {ts : Array TypeId} (ho : o.op = .call { callee := .builtin .append, args := #[.tmp t, x], argTypes := ts }) {a : Act} {w w' : World} {v : Value} (h : (Builtin.append_ ts o.type #[a.eval (.tmp t), a.eval x]).run P w = .ok v w') : (execOp a.eval o).run P w = .ok (.value v) w' := by
  simp only [execOp, ho, resolve, Sem.run_bind, Sem.run_pure, Result.andThen_ok, invoke, builtin, List.map_toArray, List.map_cons, List.map_nil, h]
/-- append(t, x...), x a row -/
theorem r_append {t : Nat} {x : Operand} {T e : TypeId} {sz b : Nat} {els news : List (List D)} (ho : o.op = .call { callee := .builtin .append, args := #[.tmp t, x], argTypes := #[T, T] }) (hd : o.dst = some d) (hT : elemI P T = some (e, sz, b))
    (ht : opd l (.tmp t) = some (.own e sz els)) (hx : opd l x = some (.c (.sl sz news))) (hbytes : (els.length + news.length) * b ≤ 140737488355328) (hsmall : els.length + news.length ≤ 140737488355328) : Does P o (t :: rdOf x) [] l [(d, .own e sz (els ++ news)), (t, .non)] := by
  intro en σ a w next Q hnn hdn hσ _ hR hnext
  obtain ⟨hdf, hsz, hfr, ρ, tv, htv, hin, hvz, hrr⟩ := hR
  obtain ⟨i, z, hu, hi, hz, h1, h2, h3, h4⟩ := elemI_some hT
  have hview := view_of hσ htv hrr
  have htl : t < 1000 := by
    simp only [opd] at ht
    cases hb : Nat.blt t 1000 with
    | false => rw [hb] at ht; cases ht
    | true => exact Nat.le_of_ble_eq_true hb
  have hσt : σ t = some (.own e sz els) := by
    rw [hσ t (by simp)]
    simp only [opd] at ht
    cases hb : Nat.blt t 1000 with
    | false => rw [hb] at ht; cases ht
    | true => rw [hb] at ht; exact ht
  obtain ⟨us, hown, hr0, hl0⟩ := hrr.rel t _ hσt
  obtain ⟨A, c, hxv, hc, hne, hr1, hcells⟩ := DIn.row (hview.fv hx (fun _ h => List.mem_cons_of_mem _ h) (by intro T xs e; cases e))
  have hev : a.eval (.tmp t) = tv t := (htv t htl).symm
  -- the new cells
  have hnv : ∃ nvs : List Value, LIn (cold en.V σ ρ tv w) w news.flatten nvs ∧ ∀ ad, A = some ad → ∀ j u, nvs[j]? = some u → w.cell? (ad.add j) = some u := by
    have hpt : ∀ k dd, news.flatten[k]? = some dd → ∃ ad u, A = some ad ∧ w.cell? (ad.add k) = some u ∧ DIn (cold en.V σ ρ tv w) w dd u := by
      intro k dd hk
      have hkl : k < news.length * sz := by
        rw [← flatten_len news sz hr1]
        rcases Nat.lt_or_ge k news.flatten.length with h | h
        · exact h
        · rw [List.getElem?_eq_none h] at hk; cases hk
      have hdm : k = (k / sz) * sz + k % sz := by rw [Nat.mul_comm]; exact (Nat.div_add_mod k sz).symm
      rw [hdm, flatten_at news sz hr1 _ _ (Nat.mod_lt _ h4)] at hk
      obtain ⟨ad, u, g1, _, g3, g4⟩ := hcells _ _ _ hk
      exact ⟨ad, u, g1, by rw [hdm]; exact g3, g4⟩
    have : ∀ (ds : List D) (k : Nat), (∀ j dd, ds[j]? = some dd → ∃ ad u, A = some ad ∧ w.cell? (ad.add (k + j)) = some u ∧ DIn (cold en.V σ ρ tv w) w dd u) → ∃ nvs : List Value, LIn (cold en.V σ ρ tv w) w ds nvs ∧ ∀ ad, A = some ad → ∀ j u, nvs[j]? = some u → w.cell? (ad.add (k + j)) = some u := by
      intro ds
      induction ds with
      | nil => exact fun k _ => ⟨[], trivial, fun _ _ j u h => by simp at h⟩
      | cons dd ds ih =>
        intro k h
        obtain ⟨ad, u, g1, g2, g3⟩ := h 0 dd rfl
        obtain ⟨nvs, g4, g5⟩ := ih (k + 1) (fun j d2 hj => by
          obtain ⟨ad2, u2, q1, q2, q3⟩ := h (j + 1) d2 (by simpa using hj)
          exact ⟨ad2, u2, q1, by rw [show k + 1 + j = k + (j + 1) by omega]; exact q2, q3⟩)
        refine ⟨u :: nvs, ⟨g3, g4⟩, fun ad' ha j u' hj => ?_⟩
        cases j with
        | zero => simp at hj; subst hj; rw [g1] at ha; cases ha; exact g2
        | succ j => rw [← g5 ad' ha j u' (by simpa using hj), show k + 1 + j = k + (j + 1) by omega]
    obtain ⟨nvs, g1, g2⟩ := this news.flatten 0 (fun j dd hj => by rw [Nat.zero_add]; exact hpt j dd hj)
    exact ⟨nvs, g1, fun ad ha j u hj => by have := g2 ad ha j u hj; rwa [Nat.zero_add] at this⟩
  obtain ⟨nvs, hl1, hnc⟩ := hnv
  have hnl : nvs.length = news.length * sz := by rw [← hl1.len, flatten_len news sz hr1]
  have hrun : ∃ v' w', (Builtin.append_ #[T, T] o.type #[a.eval (.tmp t), a.eval x]).run P w = .ok v' w' ∧ w'.ownsRow 0 e sz v' (els.length + news.length) (us ++ nvs) ∧ Grows w w' (tv t) v' := by
    rw [hev, hxv]
    cases A with
    | some ad => exact run_append_two (P := P) w T o.type e i z sz b hu hi hz h1 h2 h3 h4 (tv t) els.length us hown ad news.length c nvs hnl (hnc ad rfl) hl1.one hbytes hsmall
    | none =>
      -- nothing is appended
      have hn0 : news = [] := by
        cases news with
        | nil => rfl
        | cons r rs => obtain ⟨ad, e1⟩ := hne (by simp); cases e1
      subst hn0
      have hnvs : nvs = [] := by simpa using hnl
      subst hnvs
      refine ⟨tv t, w, ?_, by simpa using hown, ?_⟩
      · rcases hown.2 with ⟨q1, q2⟩ | ⟨g, cap, cur, q1, _, _, q4, _⟩
        · rw [q1]
          simp [Builtin.append_, run_underlying hu, sizeOf, typeInfo, hi, Builtin.lenOf, Builtin.firstCells]
        · rw [q1]
          simp [Builtin.append_, run_underlying hu, sizeOf, typeInfo, hi, Builtin.lenOf, Builtin.firstCells, q4, storeCells]
      · rcases hown.2 with ⟨q1, q2⟩ | ⟨g, cap, cur, q1, _⟩
        · refine .inr ⟨fun b hb => ?_, Below.refl _ _⟩
          rw [q1] at hb; simp [Value.ownBlock] at hb
        · exact .inl ⟨g, by rw [q1]; rfl, by rw [q1]; rfl, ⟨rfl, rfl, rfl, Nat.le_refl _, fun _ _ _ => rfl⟩⟩
  obtain ⟨v', w', hr, how, hg⟩ := hrun
  unfold Oper.wp
  rw [run_app ho hr, Oper.upon_value, hd]
  exact hnext _ _ (append_state hdf hsz hfr htv hin hvz hrr (hdn d hd) hnn hσt hown hl0 hr0 hr1 hl1 how hg)

/-- bytes -/
def byteT (P : Program) (e : TypeId) : Bool := match (P.info? e).bind (·.zero) with | some (.int .u8 n) => decide (n = 0) | _ => false
/-- the cells of a string -/
def bcells (s : List UInt8) : List (List D) := s.map fun x => [.lit (.int .u8 (x.toNat : Int))]
theorem bcells_append (s t : List UInt8) : bcells (s ++ t) = bcells s ++ bcells t := by simp [bcells]
theorem bcells_flat (s : List UInt8) : (bcells s).flatten = s.map fun x => D.lit (.int .u8 (x.toNat : Int)) := by
  induction s with
  | nil => rfl
  | cons x s ih => simp [bcells] at ih ⊢; exact ih
/-- append(t, s...), s a string -/
theorem r_appendS {t : Nat} {x : Operand} {T U e : TypeId} {s : List UInt8} {els : List (List D)} (ho : o.op = .call { callee := .builtin .append, args := #[.tmp t, x], argTypes := #[T, U] }) (hd : o.dst = some d) (hT : elemI P T = some (e, 1, 1)) (hz0 : byteT P e = true) (hU : stringT P U = true)
    (ht : opd l (.tmp t) = some (.own e 1 els)) (hx : opd l x = some (.c (.lit (str s)))) (hsmall : els.length + s.length ≤ 140737488355328) : Does P o (t :: rdOf x) [] l [(d, .own e 1 (els ++ bcells s)), (t, .non)] := by
  intro en σ a w next Q hnn hdn hσ _ hR hnext
  obtain ⟨hdf, hsz, hfr, ρ, tv, htv, hin, hvz, hrr⟩ := hR
  obtain ⟨i, z, hu, hi, hz, h1, h2, h3, h4⟩ := elemI_some hT
  have hview := view_of hσ htv hrr
  have htl : t < 1000 := by
    simp only [opd] at ht
    cases hb : Nat.blt t 1000 with
    | false => rw [hb] at ht; cases ht
    | true => exact Nat.le_of_ble_eq_true hb
  have hσt : σ t = some (.own e 1 els) := by
    rw [hσ t (by simp)]
    simp only [opd] at ht
    cases hb : Nat.blt t 1000 with
    | false => rw [hb] at ht; cases ht
    | true => rw [hb] at ht; exact ht
  have hzz : i.zero = some (.int .u8 0) := by
    unfold byteT at hz0
    rw [hi, Option.bind_some, hz] at hz0
    rw [hz]
    cases z with
    | int k n =>
      cases k with
      | u8 =>
        have : n = 0 := by simpa using hz0
        rw [this]
      | _ => simp at hz0
    | _ => simp at hz0
  have hus : P.underlying U = some .string := by
    unfold stringT at hU
    cases hq : P.underlying U with
    | none => simp [hq] at hU
    | some dd => rw [hq] at hU; cases dd <;> first | rfl | cases hU
  obtain ⟨us, hown, hr0, hl0⟩ := hrr.rel t _ hσt
  have hxv := lit_val (hview.fv hx (fun _ h => List.mem_cons_of_mem _ h) (by intro T xs e; cases e))
  have hev : a.eval (.tmp t) = tv t := (htv t htl).symm
  obtain ⟨v', w', hr, how, hg⟩ := run_append_twoS (P := P) w T U o.type e i hu hus hi hzz h1 h2 (tv t) els.length us hown (⟨s.toArray⟩ : ByteArray) (by simpa [ByteArray.size] using hsmall)
  have hr' : (Builtin.append_ #[T, U] o.type #[a.eval (.tmp t), a.eval x]).run P w = .ok v' w' := by rw [hev, hxv]; exact hr
  unfold Oper.wp
  rw [run_app ho hr', Oper.upon_value, hd]
  have hsl : (⟨s.toArray⟩ : ByteArray).size = (bcells s).length := by simp [ByteArray.size, bcells]
  have hsc : Lib.strCells (⟨s.toArray⟩ : ByteArray) = s.map fun x => Value.int .u8 (x.toNat : Int) := by simp [Lib.strCells]
  rw [hsl, hsc] at how
  refine hnext _ _ (append_state hdf hsz hfr htv hin hvz hrr (hdn d hd) hnn hσt hown hl0 hr0 (news := bcells s) (fun r hr => ?_) ?_ how hg)
  · unfold bcells at hr
    obtain ⟨x, _, rfl⟩ := List.mem_map.1 hr
    rfl
  · rw [bcells_flat]
    have := LIn.lits (S := cold en.V σ ρ tv w) (w := w) (vs := s.map fun x => Value.int .u8 (x.toNat : Int)) (fun v hv => by
      obtain ⟨x, _, rfl⟩ := List.mem_map.1 hv
      rfl)
    rw [List.map_map] at this
    exact this

/-- an owned row goes to another temporary -/
theorem RR.moveOwn {V : Addr → Prop} {ρ : Nat → Nat} {tv : Nat → Value} {w : World} {σ : Sta} (h : RR V ρ tv w σ) {t d : Nat} (hd : d < 1000) {T : TypeId} {sz : Nat} {els : List (List D)} (ht : σ t = some (.own T sz els)) :
    RR V ρ (setv tv d (tv t)) w (upd σ [(d, .own T sz els), (t, .non)]) ∧ ∀ p, vol (upd σ [(d, .own T sz els), (t, .non)]) ρ (setv tv d (tv t)) p → vol σ ρ tv p ∨ w.heap.size ≤ p.block := by
  obtain ⟨us, hown, hr, hl⟩ := h.rel t _ ht
  exact h.own (.inl hd) (fun p => (tv t).ownBlock = some p.block ∧ els.length * sz ≤ p.off) (fun p hp => ⟨_, ht, hp.1, hp.2⟩) (Nat.le_refl _) (fun _ _ _ => rfl) (fun _ _ _ => rfl) hown hr hl (fun p hp ho => .inl ⟨hp, ho⟩) (fun b hb => .inl ⟨_, ht, hb⟩)
theorem Does.moveOwn {x : Operand} {t : Nat} {T : TypeId} {sz : Nat} {els : List (List D)} (hx : x = .tmp t) (hd : o.dst = some d) (ht : opd l x = some (.own T sz els)) (hrun : ∀ a w, (execOp (Act.eval a) o).run P w = .ok (.value (a.eval x)) w) : Does P o [t] [] l [(d, .own T sz els), (t, .non)] := by
  intro en σ a w next Q hnn hdn hσ _ hR hnext
  obtain ⟨hdf, hsz, hfr, ρ, tv, htv, hin, hvz, hrr⟩ := hR
  subst hx
  simp only [opd] at ht
  cases hb : Nat.blt t 1000 with
  | false => rw [hb] at ht; cases ht
  | true =>
    rw [hb, cond_true] at ht
    have htl : t < 1000 := Nat.le_of_ble_eq_true hb
    have hσt : σ t = some (.own T sz els) := by rw [hσ t (by simp)]; exact ht
    have hev : a.eval (.tmp t) = tv t := (htv t htl).symm
    unfold Oper.wp
    rw [hrun, Oper.upon_value, hd, hev]
    exact hnext _ _ (R.own (w := w) hdf hsz hfr htv hin hvz hfr.size (hdn d hd) hnn (hrr.moveOwn (Nat.lt_of_lt_of_le (hdn d hd) hnn) hσt))
theorem r_moveOwn {x : Operand} {t : Nat} {T : TypeId} {sz : Nat} {els : List (List D)} (ho : o.op = .move x) (hx : x = .tmp t) (hd : o.dst = some d) (ht : opd l x = some (.own T sz els)) : Does P o [t] [] l [(d, .own T sz els), (t, .non)] :=
  Does.moveOwn hx hd ht fun a w => by unfold execOp; rw [ho]; rfl
theorem r_assignOwn {x : Operand} {t : Nat} {T : TypeId} {sz : Nat} {els : List (List D)} (ho : o.op = .assign x) (hx : x = .tmp t) (hd : o.dst = some d) (ht : opd l x = some (.own T sz els)) : Does P o [t] [] l [(d, .own T sz els), (t, .non)] :=
  Does.moveOwn hx hd ht fun a w => by unfold execOp; rw [ho]; rfl
end

end Go.Proofs.YtoadmjnaakbljaaDoor
