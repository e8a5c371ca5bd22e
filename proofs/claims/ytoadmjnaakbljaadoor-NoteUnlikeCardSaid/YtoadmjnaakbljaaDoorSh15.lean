/- Strings and rows of bytes: []byte(s), of a constant and of any; equality of bools; nil as a row of one's own. -/
import Derived.Test.YtoadmjnaakbljaaDoorSh14
import Derived.Laws.IdiomStrings
namespace Go.Proofs.YtoadmjnaakbljaaDoor
open Go Go.RowKit
set_option linter.unusedVariables false

section
variable {P : Program} {o : Oper} {l : List (Nat × F)} {d : Nat}
def boolT (P : Program) (T : TypeId) : Bool := match P.underlying T with | some .bool => true | _ => false
theorem boolT_some {T : TypeId} (h : boolT P T = true) : P.underlying T = some .bool := by
  unfold boolT at h
  split at h
  · assumption
  · cases h
theorem r_eqB {T T' : TypeId} {x y : Operand} {s t : Bool} (ho : o.op = .binOp .eql T x y T') (hd : o.dst = some d) (hT : boolT P T = true) (hx : opd l x = some (.c (.lit (.bool s)))) (hy : opd l y = some (.c (.lit (.bool t)))) :
    Does P o (rdOf x ++ rdOf y) [] l [(d, .c (.lit (.bool (s == t))))] :=
  r_bin ho hd hx hy rfl fun w => by
    have : (Op.equal T (.bool s) (.bool t)).run P w = .ok (s == t) w := run_equalIn_bool w 9999 T s t (boolT_some hT)
    simp [eqGuard, binOp, this]
theorem r_neB {T T' : TypeId} {x y : Operand} {s t : Bool} (ho : o.op = .binOp .neq T x y T') (hd : o.dst = some d) (hT : boolT P T = true) (hx : opd l x = some (.c (.lit (.bool s)))) (hy : opd l y = some (.c (.lit (.bool t)))) :
    Does P o (rdOf x ++ rdOf y) [] l [(d, .c (.lit (.bool (!(s == t)))))] :=
  r_bin ho hd hx hy rfl fun w => by
    have : (Op.equal T (.bool s) (.bool t)).run P w = .ok (s == t) w := run_equalIn_bool w 9999 T s t (boolT_some hT)
    simp [eqGuard, binOp, this]

theorem freeze_eq (w : World) (a : Addr) : (w.freeze a 1).os = w.os ∧ (w.freeze a 1).tape = w.tape ∧ (w.freeze a 1).output = w.output ∧ (w.freeze a 1).heap.size = w.heap.size ∧ (∀ k, k ≠ a.block → (w.freeze a 1).heap[k]? = w.heap[k]?) ∧ ∀ p, (w.freeze a 1).cell? p = w.cell? p := by
  unfold World.freeze
  rw [if_neg (by decide)]
  refine ⟨rfl, rfl, rfl, by simp, fun k hk => ?_, fun p => ?_⟩
  · simp only [Array.getElem?_modify, if_neg (Ne.symm hk)]
  · unfold World.cell?
    simp only [Array.getElem?_modify]
    by_cases h : a.block = p.block
    · rw [if_pos h]
      cases hp : w.heap[p.block]? with
      | none => rfl
      | some ob =>
        cases ob <;> rfl
    · rw [if_neg h]
def u8Row (P : Program) (T : TypeId) : Bool :=
  match P.underlying T with
  | some (.slice e) => (match P.underlying e with | some (.int .u8) => true | _ => false)
  | _ => false
theorem u8Row_some {T : TypeId} (h : u8Row P T = true) : ∃ e, P.underlying T = some (.slice e) ∧ P.underlying e = some (.int .u8) := by
  unfold u8Row at h
  split at h
  · rename_i e he
    split at h
    · rename_i h2
      exact ⟨e, he, h2⟩
    · cases h
  · cases h
/-- []byte("..") of a constant: a row that is written no more -/
theorem r_convConst {T e : TypeId} {t : Nat} {sz : Nat} {els : List (List D)} (ho : o.op = .convert T T (.tmp t)) (hd : o.dst = some d) (hT : u8Row P T = true) (ht : opd l (.tmp t) = some (.own e sz els)) (hne : Nat.blt 0 els.length = true) :
    Does P o [t] [] l [(d, .c (.sl sz els)), (t, .non)] := by
  intro en σ a w next Q hnn hdn hσ _ hR hnext
  obtain ⟨hdf, hsz, hfr, ρ, tv, htv, hin, hvz, hrr⟩ := hR
  obtain ⟨el, hu, he⟩ := u8Row_some hT
  have hb0 : Nat.blt t 1000 = true := by
    simp only [opd] at ht
    cases hb : Nat.blt t 1000 with
    | false => rw [hb] at ht; cases ht
    | true => rfl
  have htl : t < 1000 := Nat.le_of_ble_eq_true hb0
  have hσt : σ t = some (.own e sz els) := by
    rw [hσ t (by simp)]
    simp only [opd] at ht
    rw [hb0] at ht; exact ht
  have hlen : 0 < els.length := Nat.le_of_ble_eq_true hne
  have hdlt : d < 1000 := Nat.lt_of_lt_of_le (hdn d hd) hnn
  have hdn' := hdn d hd
  obtain ⟨us, hown, hr, hl⟩ := hrr.rel t _ hσt
  have hev : a.eval (.tmp t) = tv t := (htv t htl).symm
  rcases hown.2 with ⟨_, h2⟩ | ⟨g, cap, cur, h1, _, h3, h4, h5, _⟩
  · omega
  have hex : ex ρ tv t (.own e sz els) = some g := by show (tv t).ownBlock = _; rw [h1]; rfl
  have hgb := hrr.exb t _ g hσt hex
  obtain ⟨w', hw', f1, f2, f3, f4, f5, f6⟩ : ∃ w', (execOp a.eval o).run P w = .ok (.value (tv t)) w' ∧ w'.os = w.os ∧ w'.tape = w.tape ∧ w'.output = w.output ∧ w'.heap.size = w.heap.size ∧ (∀ k, k ≠ g → w'.heap[k]? = w.heap[k]?) ∧ ∀ p, w'.cell? p = w.cell? p := by
    have hsh : w.shape? g = some (e, cur.size) := by unfold World.shape?; rw [h3]
    refine ⟨w.freeze ⟨g, cur.size, none⟩ 1, ?_, freeze_eq w ⟨g, cur.size, none⟩⟩
    unfold execOp
    rw [ho]
    simp only [hev, h1]
    simp [convert, run_underlying hu, run_underlying he, markStringish, hsh]
  have hnew : ∀ k f b, upd σ [(d, .c (.sl sz els)), (t, .non)] k = some f → ex ρ (setv tv d (tv t)) k f = some b → σ k = some f ∧ ex ρ tv k f = some b ∧ k ≠ t ∧ k ≠ d := by
    intro k f b hk hb
    unfold upd at hk
    simp only [find_cons] at hk
    by_cases q1 : d = k
    · rw [if_pos q1] at hk; cases hk; cases hb
    · rw [if_neg q1] at hk
      by_cases q2 : t = k
      · rw [if_pos q2] at hk; cases hk; cases hb
      · rw [if_neg q2] at hk
        refine ⟨hk, ?_, fun q => q2 q.symm, fun q => q1 q.symm⟩
        cases f <;> simp only [ex, setv_other _ _ _ (fun q : k = d => q1 q.symm)] at hb ⊢ <;> exact hb
  have hvol : ∀ p, vol (upd σ [(d, .c (.sl sz els)), (t, .non)]) ρ (setv tv d (tv t)) p → vol σ ρ tv p := fun p ⟨k, f, q1, q2, q3⟩ => ⟨k, f, (hnew k f _ q1 q2).1, (hnew k f _ q1 q2).2.1, q3⟩
  have hcold : ∀ p, cold en.V σ ρ tv w p → cold en.V (upd σ [(d, .c (.sl sz els)), (t, .non)]) ρ (setv tv d (tv t)) w' p := fun p hp => ⟨by rw [f4]; exact hp.1, hp.2.1, fun h => hp.2.2 (hvol p h)⟩
  have hrr' : RR en.V ρ (setv tv d (tv t)) w' (upd σ [(d, .c (.sl sz els)), (t, .non)]) := by
    refine hrr.to (by rw [f4]; exact Nat.le_refl _) (fun p hp => ⟨(hcold p hp).2.2, f6 p⟩) (fun k f hk => ?_) (fun k f k' f' b q1 q2 q3 q4 => hrr.dist _ _ _ _ _ (hnew _ _ _ q1 q3).1 (hnew _ _ _ q2 q4).1 (hnew _ _ _ q1 q3).2.1 (hnew _ _ _ q2 q4).2.1)
      (fun k f b q1 q2 => ⟨by rw [f4]; exact (hrr.exb _ _ _ (hnew _ _ _ q1 q2).1 (hnew _ _ _ q1 q2).2.1).1, (hrr.exb _ _ _ (hnew _ _ _ q1 q2).1 (hnew _ _ _ q1 q2).2.1).2⟩)
    have hk0 := hk
    unfold upd at hk
    simp only [find_cons] at hk
    by_cases q1 : d = k
    · rw [if_pos q1] at hk
      cases hk
      refine .inr ?_
      show DIn _ _ _ _
      rw [← q1, setv_same]
      have hcells := hown.cells (g := g) (by rw [h1]; rfl)
      suffices hD : DIn (cold en.V (upd σ [(d, .c (.sl sz els)), (t, .non)]) ρ (setv tv d (tv t)) w') w' (.sl sz els) (.slice (some ⟨g, 0, none⟩) els.length cap) by
        rw [← h1] at hD
        exact hD
      refine DIn.rows h4 hr (hl.mono hcold (fun p _ => f6 p)) (fun j u hj => ?_)
      refine ⟨⟨?_, ?_, ?_⟩, (f6 _).trans (hcells j u hj)⟩
      · rw [block_of_add, f4]; exact hgb.1
      · exact hgb.2 _ (by rw [block_of_add])
      · rintro ⟨k', g', p1, p2, p3⟩
        rw [block_of_add] at p2
        obtain ⟨p4, p5, p6, _⟩ := hnew k' g' _ p1 p2
        exact p6 (hrr.dist _ _ _ _ _ p4 hσt p5 hex)
    · rw [if_neg q1] at hk
      by_cases q2 : t = k
      · rw [if_pos q2] at hk
        cases hk
        exact .inr trivial
      · rw [if_neg q2] at hk
        refine .inl ⟨hk, hrr.same hk (setv_other _ _ _ (fun q => q1 q.symm)) (fun i hi => setv_other _ _ _ (by omega)) (fun _ _ _ => rfl) (fun _ _ _ => rfl) (fun b hb => f5 b fun q => ?_)⟩
        subst q
        exact q2 (hrr.dist _ _ _ _ _ hk hσt hb hex).symm
  unfold Oper.wp
  rw [hw', Oper.upon_value, hd]
  refine hnext _ _ ⟨by rw [put_defers]; exact hdf, by rw [put_size]; exact hsz, ⟨f1.trans hfr.os, f2.trans hfr.tape, f3.trans hfr.output, by rw [f4]; exact hfr.size, fun p hp hn => (f6 p).trans (hfr.cell p hp hn), fun k hk hn => ?_⟩, ρ, setv tv d (tv t), fun t' ht' => ?_, hin, fun p hp => hvz p (hvol p hp), hrr'⟩
  · refine (f5 k fun q => ?_).trans (hfr.block k hk hn)
    subst q
    rcases hvz ⟨k, els.length * sz, none⟩ ⟨t, _, hσt, hex, Nat.le_refl _⟩ with q | q
    · exact hn _ rfl q
    · have : en.w0.heap.size ≤ k := q
      omega
  · rw [put_getD _ _ _ (by rw [hsz]; exact hdn'), setv, htv t' ht']
/-- []byte(s) -/
theorem r_bytesOf {A B : TypeId} {x : Operand} {s : List UInt8} (ho : o.op = .convert A B x) (hd : o.dst = some d) (hA : stringT P A = true) (hB : u8Row P B = true) (hx : opd l x = some (.c (.lit (str s)))) : Does P o (rdOf x) [] l [(d, .c (.sl 1 (bcells s)))] :=
  Does.newRow hd trivial fun S ρ tv a w hv => by
    have e1 := lit_val (hv.fv hx (fun _ h => h) (by intro T xs e; cases e))
    obtain ⟨el, hu, he⟩ := u8Row_some hB
    have hs : P.underlying A = some .string := by
      unfold stringT at hA
      split at hA
      · assumption
      · cases hA
    have hrun := run_bytes_of_string (P := P) w A B el ⟨s.toArray⟩ hs hu he
    have hbl : Below w.heap.size w (w.drew.alloc (.cells (bytesRow ⟨s.toArray⟩ (grownCap w (⟨s.toArray⟩ : ByteArray).size 0 el)) el ((bytesRow ⟨s.toArray⟩ (grownCap w (⟨s.toArray⟩ : ByteArray).size 0 el)).size, (bytesRow ⟨s.toArray⟩ (grownCap w (⟨s.toArray⟩ : ByteArray).size 0 el)).size + 1))) := ((Below.refl _ _).drew).alloc (Nat.le_refl _) _
    refine ⟨.slice (some ⟨w.heap.size, 0, none⟩) (⟨s.toArray⟩ : ByteArray).size (grownCap w (⟨s.toArray⟩ : ByteArray).size 0 el), _, ?_, hbl, fun S' h3 h4 h5 => ?_⟩
    · unfold execOp
      rw [ho]
      simp only [e1]
      show (do pure (Next.value (← convert A B (.string ⟨s.toArray⟩))) : Sem Next).run P w = _
      rw [Sem.run_bind, hrun]
      rfl
    · show DIn S' _ _ _
      have hsz : (⟨s.toArray⟩ : ByteArray).size = (bcells s).length := by simp [bcells, ByteArray.size]
      have hcap : (bcells s).length ≤ grownCap w (⟨s.toArray⟩ : ByteArray).size 0 el := by rw [← hsz]; exact grownCap_ge _ _ _ _
      have hDI : DIn S' (w.drew.alloc (.cells (bytesRow ⟨s.toArray⟩ (grownCap w (⟨s.toArray⟩ : ByteArray).size 0 el)) el ((bytesRow ⟨s.toArray⟩ (grownCap w (⟨s.toArray⟩ : ByteArray).size 0 el)).size, (bytesRow ⟨s.toArray⟩ (grownCap w (⟨s.toArray⟩ : ByteArray).size 0 el)).size + 1))) (.sl 1 (bcells s)) (.slice (some ⟨w.heap.size, 0, none⟩) (bcells s).length (grownCap w (⟨s.toArray⟩ : ByteArray).size 0 el)) := by
        refine .ofRow rfl hcap (fun _ => ⟨_, rfl⟩) (bcells_rows s) (fun i j dd hij => ?_)
        have hi : i < s.length := by
          rcases Nat.lt_or_ge i s.length with h | h
          · exact h
          · unfold D.at at hij
            rw [List.getElem?_eq_none (by simp [bcells]; omega)] at hij
            cases hij
        have hj : j = 0 := by
          unfold D.at bcells at hij
          simp only [List.getElem?_map, List.getElem?_eq_getElem hi, Option.map_some, Option.bind_some] at hij
          rcases j with _ | j
          · rfl
          · simp at hij
        subst hj
        rw [bcells_at s i hi] at hij
        cases hij
        refine ⟨_, _, rfl, ?_, ?_, .lit _ rfl⟩
        · rw [addr_add]
          exact h4 _ (Nat.le_refl _) (by simp)
        · rw [addr_add, cell_of_row _ w.heap.size _ _ _ _ (heap_alloc_new w.drew _), bytesRow_at _ _ _ (by simpa using hi)]
          simp
      rw [← hsz] at hDI
      exact hDI
/-- string(b), b a row of one's own -/
theorem r_strOwn {A B T : TypeId} {x : Operand} {s : List UInt8} (ho : o.op = .convert A B x) (hd : o.dst = some d) (hT : byteRow P A B = true) (hx : opd l x = some (.own T 1 (bcells s))) : Does P o (rdOf x) [] l [(d, .c (.lit (str s)))] :=
  Does.val hd trivial fun S ρ tv a w hv => by
    obtain ⟨us, hown, _, hl0⟩ := hv.fv hx (fun _ h => h) (by intro T xs e; cases e)
    obtain ⟨e, hs, he, hd'⟩ := byteRow_some hT
    obtain ⟨A', c, h1, hcell⟩ : ∃ A' c, a.eval x = .slice A' s.length c ∧ ∀ j (hj : j < s.length), ∃ ad, A' = some ad ∧ w.cell? (ad.add j) = some (.int .u8 (s[j].toNat : Int)) := by
      rcases hown.2 with ⟨h2, h3⟩ | ⟨g, cap, cur, h2, _⟩
      · rw [bcells_len] at h3
        exact ⟨none, 0, by rw [h2, h3], fun j hj => by omega⟩
      · refine ⟨_, _, by rw [h2, bcells_len], fun j hj => ⟨_, rfl, ?_⟩⟩
        have hcs := hown.cells (g := g) (by rw [h2]; rfl)
        rw [bcells_flat] at hl0
        obtain ⟨u, g1, g2⟩ := hl0.get j (.lit (.int .u8 (s[j].toNat : Int))) (by simp [hj])
        cases g2
        exact hcs j _ g1
    refine ⟨str s, ?_, .lit _ rfl⟩
    simp only [execOp, ho, h1, Sem.run_bind]
    rw [run_convert_bytes_string w A B e _ _ c hs he hd']
    cases A' with
    | none =>
      have : s = [] := by
        cases s with
        | nil => rfl
        | cons x r =>
          obtain ⟨ad, hA, _⟩ := hcell 0 (by simp)
          cases hA
      subst this
      simp [Conv.bytesToString]
      rfl
    | some ad =>
      have hl : (loadCells ad s.length).run P w = .ok ((s.map (fun x => (x.toNat : Int))).map (Value.int .u8)).toArray w := by
        have := run_loadCells_list (P := P) w ad ((s.map (fun x => (x.toNat : Int))).map (Value.int .u8)) (fun j v hj => by
          rw [List.getElem?_map, List.getElem?_map] at hj
          have hjl : j < s.length := by
            rcases Nat.lt_or_ge j s.length with h1 | h1
            · exact h1
            · rw [List.getElem?_eq_none h1] at hj; simp at hj
          rw [List.getElem?_eq_getElem hjl] at hj
          obtain ⟨ad', hA, hc⟩ := hcell j hjl
          cases hA
          simpa [hc] using hj)
        simpa using this
      rw [run_bytesToString w _ _ c _ hl, bytes_fold]
      rfl
/-- a contract for an empty row of one's own holds of nil -/
theorem con_nil0 {f : FuncId} {T : TypeId} {sz : Nat} {fs : List F} {vs vs' : List (Nat × F)} {r : F} (h : Con P f (.own T sz [] :: fs) vs r vs') : Con P f (.c (.lit (.slice none 0 0)) :: fs) vs r vs' := by
  intro V ρ tv w args B hsz htv hrr htt hBv hBw
  have hv : tv 0 = .slice none 0 0 := lit_val (ρ := ρ) (hrr.rel 0 _ rfl)
  have hs : setv tv 0 (tv 0) = tv := by funext k; unfold setv; by_cases h : k = 0 <;> simp [h]
  obtain ⟨h1, _⟩ := hrr.own (t := 0) (d := 0) (w' := w) (T := T) (sz := sz) (els := []) (v := tv 0) (us := []) (.inl (by omega)) (fun _ => False) (fun p h => h.elim) (Nat.le_refl _) (fun _ _ _ => rfl) (fun _ _ _ => rfl) (by rw [hv]; exact World.ownsRow_nil _ _ _ _) (fun _ h => by simp at h) trivial (fun p hp => by rw [hv] at hp; simp [Value.ownBlock] at hp) (fun b hp => by rw [hv] at hp; simp [Value.ownBlock] at hp)
  have hst : upd (find (ini (.c (.lit (.slice none 0 0)) :: fs) vs)) [(0, .own T sz []), (0, .non)] = find (ini (.own T sz [] :: fs) vs) := by
    funext k
    unfold upd ini nums
    simp only [List.cons_append, find_cons]
    by_cases hk : 0 = k
    · simp [hk]
    · simp [hk, find]
  rw [hs, hst] at h1
  have hvol : ∀ p, vol (find (ini (.own T sz [] :: fs) vs)) ρ tv p → vol (find (ini (.c (.lit (.slice none 0 0)) :: fs) vs)) ρ tv p := by
    rintro p ⟨k, f', q1, q2, q3⟩
    unfold ini nums at q1
    rw [List.cons_append, find_cons] at q1
    by_cases hk : 0 = k
    · rw [if_pos hk] at q1
      cases q1
      rw [← hk] at q2
      simp only [ex, hv, Value.ownBlock] at q2
      cases q2
    · rw [if_neg hk] at q1
      refine ⟨k, f', ?_, q2, q3⟩
      unfold ini nums
      rw [List.cons_append, find_cons, if_neg hk]
      exact q1
  refine (h V ρ tv w args B (by simpa using hsz) htv h1 htt (fun p hp => hBv p (hvol p hp)) hBw).mono ?_
  rintro e w' ⟨v, tv', h3, h4, h5, h6, h7⟩
  exact ⟨v, tv', h3, h4, ⟨h5.os, h5.tape, h5.output, h5.size, fun p hp hn => h5.cell p hp (fun q => hn (hvol p q)), fun k hk hn => h5.block k hk (fun p hp q => hn p hp (hvol p q))⟩, h6, fun p hp => (h7 p hp).imp_left (hvol p)⟩
end

end Go.Proofs.YtoadmjnaakbljaaDoor
