/- The plain law of NoteLoose: how closely the signs bind. No program in sight. -/
import Derived.Test.YtoadmjnaakbljaaDoorPR2
namespace Go.Proofs.YtoadmjnaakbljaaDoor

def NoPr (rb : List BTok) : Prop := ∀ b r, rb = b :: r → (b.k == 2 && b.s == tkList) = false ∧ (b.k == 5 && b.s == [42]) = false
theorem NoGo.pr {rb : List BTok} (h : NoGo rb) : NoPr rb := fun b r e => ⟨(h b r e).1, (h b r e).2.1⟩
theorem nopr_hit {l : List Tok} {rb : List BTok} (h : l.map Tok.bare = rb) (hn : NoPr rb) : hit 2 tkList l = false ∧ hit 5 [42] l = false := by
  cases rb with
  | nil =>
    have : l = [] := by simpa using h
    subst this
    exact ⟨rfl, rfl⟩
  | cons b r => rw [hit_bare h, hit_bare h]; exact hn b r rfl
def AtT (p : List BTok) (a : Ty) : Prop := ∀ (f : Nat) (l : List Tok) (rb : List BTok), l.map Tok.bare = p ++ rb → p.length ≤ f + 1 → mAtom (mTypF f) l = .ok (a, l.drop p.length)
def PoT (p : List BTok) (a : Ty) : Prop := ∀ (f : Nat) (l : List Tok) (rb : List BTok), l.map Tok.bare = p ++ rb → p.length ≤ f + 1 → mPost (mTypF f) l = .ok (mLists a (l.drop p.length))
def PrT (p : List BTok) (a : Ty) : Prop := ∀ (f : Nat) (l : List Tok) (rb : List BTok), l.map Tok.bare = p ++ rb → NoPr rb → p.length ≤ f + 1 → mProd (mTypF f) l = .ok (a, l.drop p.length)
def RdP (p : List BTok) (a : Ty) : Prop := ∀ (f : Nat) (l : List Tok) (rb : List BTok), l.map Tok.bare = p ++ rb → NoGo rb → p.length ≤ f → mTypF f l = .ok (a, l.drop p.length)
abbrev Br (p : List BTok) : List BTok := [sgT [40]] ++ p ++ [sgT [41]]
theorem at_paren {p : List BTok} {a : Ty} (h : RdP p a) : AtT (Br p) a := by
  intro f l rb hl hf
  have hl' : l.map Tok.bare = sgT [40] :: (p ++ sgT [41] :: rb) := by rw [hl]; simp
  simp only [List.length_append, List.length_cons, List.length_nil] at hf
  have h1 := tail_bare hl'
  have h2 := h f l.tail _ h1 (nogo_close rb) (by omega)
  have h3 := map_drop h1
  rw [atom_paren (by rw [hit_bare hl']; decide) h2 (by rw [hit_bare h3]; decide)]
  congr 2
  rw [tail_drop1, tail_drop1, drop_app, drop_app]
  congr 1
  simp only [List.length_append, List.length_cons, List.length_nil]
  omega
theorem po_at {p : List BTok} {a : Ty} (h : AtT p a) : PoT p a := by
  intro f l rb hl hf
  unfold mPost
  rw [h f l rb hl hf]
theorem po_list {p : List BTok} {a : Ty} (h : PoT p a) : PoT (p ++ [kwT tkList]) (.one 8 a) := by
  intro f l rb hl hf
  rw [List.append_assoc] at hl
  simp only [List.length_append, List.length_cons, List.length_nil] at hf
  have m1 := map_drop hl
  rw [h f l _ hl (by omega), mLists_hit (by rw [hit_bare m1]; decide), tail_drop1, drop_app, List.length_append]
  rfl
theorem pr_po {p : List BTok} {a : Ty} (h : PoT p a) : PrT p a := by
  intro f l rb hl hn hf
  obtain ⟨n1, n2⟩ := nopr_hit (map_drop hl) hn
  refine prod_of ?_ n2
  rw [h f l rb hl hf, mLists_miss n1]
theorem pr_two {p q : List BTok} {a b : Ty} (h : PoT p a) (h2 : PoT q b) : PrT (p ++ [sgT [42]] ++ q) (.two 7 a b) := by
  intro f l rb hl hn hf
  have hl' : l.map Tok.bare = p ++ (sgT [42] :: (q ++ rb)) := by rw [hl]; simp
  simp only [List.length_append, List.length_cons, List.length_nil] at hf
  have m1 := map_drop hl'
  have m2 := tail_bare m1
  have m3 := map_drop m2
  obtain ⟨n1, n2⟩ := nopr_hit m3 hn
  have e1 : mPost (mTypF f) l = .ok (a, l.drop p.length) := by rw [h f l _ hl' (by omega), mLists_miss (by rw [hit_bare m1]; decide)]
  have e2 := h2 f _ _ m2 (by omega)
  rw [mLists_miss n1] at e2
  rw [prod_two e1 (by rw [hit_bare m1]; decide) e2]
  congr 2
  rw [tail_drop1, drop_app, drop_app]
  congr 1
  simp only [List.length_append, List.length_cons, List.length_nil]
  omega
theorem rd_pr {p : List BTok} {a : Ty} (h : PrT p a) (hp : 1 ≤ p.length) : RdP p a := by
  intro f l rb hl hn hf
  obtain ⟨g, rfl⟩ : ∃ g, f = g + 1 := ⟨f - 1, by omega⟩
  exact typ_of (h g l rb hl hn.pr hf) (nogo_hit (map_drop hl) hn).2.2
theorem rd_fun {p q : List BTok} {a b : Ty} (h : PrT p a) (h2 : RdP q b) : RdP (p ++ [sgT [45, 62]] ++ q) (.two 9 a b) := by
  intro f l rb hl hn hf
  have hl' : l.map Tok.bare = p ++ (sgT [45, 62] :: (q ++ rb)) := by rw [hl]; simp
  simp only [List.length_append, List.length_cons, List.length_nil] at hf
  obtain ⟨g, rfl⟩ : ∃ g, f = g + 1 := ⟨f - 1, by omega⟩
  have m1 := map_drop hl'
  have m2 := tail_bare m1
  rw [typ_two (h g l _ hl' (fun b r e => by cases e; exact ⟨by decide, by decide⟩) (by omega)) (by rw [hit_bare m1]; decide) (h2 g _ _ m2 hn (by omega))]
  congr 2
  rw [tail_drop1, drop_app, drop_app]
  congr 1
  simp only [List.length_append, List.length_cons, List.length_nil]
  omega
theorem read_whole {p : List BTok} {a : Ty} (h : RdP p a) {ts : List Tok} (hm : ts.map Tok.bare = p) : mRead ts 0 = (a, (ts.length : Int), 0) := by
  have hl : p.length = ts.length := by rw [← hm, List.length_map]
  have h1 := h (ts.length + 1) ts [] (by rw [hm, List.append_nil]) nogo_nil (by omega)
  rw [mRead, if_neg (by omega)]
  show (match mTyp (ts.drop 0) with
    | .ok (t, r) => (t, ((ts.length - r.length : Nat) : Int), (0 : Int))
    | .error k => (.leaf 0, ((ts.length - k : Nat) : Int), 3)) = _
  rw [List.drop_zero, mTyp, h1, hl, List.drop_length]
  rfl
theorem xP {a : Ty} (h : ClosedTy a) : PoT (Br (bTxt a)) a := po_at (at_paren (rd_txt h))
theorem zP {a : Ty} (h : ClosedTy a) : PoT (Br (Br (bTxt a))) a := po_at (at_paren (rd_pr (pr_po (xP h)) (by simp)))

def loS (k : Nat) (x y z : List UInt8) : List UInt8 :=
  match k with
  | 0 => x ++ [42] ++ y ++ [45, 62] ++ z
  | 1 => x ++ [45, 62] ++ y ++ [45, 62] ++ z
  | 2 => x ++ [45, 62] ++ y ++ [42] ++ z ++ tkList
  | 3 => x ++ [32, 108, 105, 115, 116, 32, 108, 105, 115, 116, 42] ++ y ++ [32, 108, 105, 115, 116, 45, 62] ++ z
  | _ => [40, 40] ++ x ++ [45, 62] ++ y ++ [41, 41, 108, 105, 115, 116, 45, 62] ++ z
def loT (k : Nat) (a b c : Ty) : Ty :=
  match k with
  | 0 => .two 9 (.two 7 a b) c
  | 1 => .two 9 a (.two 9 b c)
  | 2 => .two 9 a (.two 7 b (.one 8 c))
  | 3 => .two 9 (.two 7 (.one 8 (.one 8 a)) (.one 8 b)) c
  | _ => .two 9 (.one 8 (.two 9 a b)) c
def loP (k : Nat) (a b c : Ty) : List BTok :=
  match k with
  | 0 => (Br (bTxt a) ++ [sgT [42]] ++ Br (bTxt b)) ++ [sgT [45, 62]] ++ Br (Br (bTxt c))
  | 1 => Br (bTxt a) ++ [sgT [45, 62]] ++ (Br (bTxt b) ++ [sgT [45, 62]] ++ Br (Br (bTxt c)))
  | 2 => Br (bTxt a) ++ [sgT [45, 62]] ++ (Br (bTxt b) ++ [sgT [42]] ++ (Br (Br (bTxt c)) ++ [kwT tkList]))
  | 3 => ((Br (bTxt a) ++ [kwT tkList] ++ [kwT tkList]) ++ [sgT [42]] ++ (Br (bTxt b) ++ [kwT tkList])) ++ [sgT [45, 62]] ++ Br (Br (bTxt c))
  | _ => (Br (Br (Br (bTxt a) ++ [sgT [45, 62]] ++ Br (bTxt b))) ++ [kwT tkList]) ++ [sgT [45, 62]] ++ Br (Br (bTxt c))
theorem loose_read {a b c : Ty} (ha : ClosedTy a) (hb : ClosedTy b) (hc : ClosedTy c) (k : Nat) : RdP (loP k a b c) (loT k a b c) := by
  have z1 : RdP (Br (Br (bTxt c))) c := rd_pr (pr_po (zP hc)) (by simp)
  match k with
  | 0 => exact rd_fun (pr_two (xP ha) (xP hb)) z1
  | 1 => exact rd_fun (pr_po (xP ha)) (rd_fun (pr_po (xP hb)) z1)
  | 2 => exact rd_fun (pr_po (xP ha)) (rd_pr (pr_two (xP hb) (po_list (zP hc))) (by simp))
  | 3 => exact rd_fun (pr_two (po_list (po_list (xP ha))) (po_list (xP hb))) z1
  | k + 4 =>
    exact rd_fun (pr_po (po_list (po_at (at_paren (rd_pr (pr_po (po_at (at_paren (rd_fun (pr_po (xP ha)) (rd_pr (pr_po (xP hb)) (by simp)))))) (by simp)))))) z1
theorem sc_open {r : List UInt8} {bs : List BTok} (h : Sc r bs) : Sc (40 :: r) (sgT [40] :: bs) := sc_sign (.inl rfl) h
theorem sc_close {r : List UInt8} {bs : List BTok} (h : Sc r bs) : Sc (41 :: r) (sgT [41] :: bs) := sc_sign (.inr (.inl rfl)) h
theorem sc_star {r : List UInt8} {bs : List BTok} (h : Sc r bs) : Sc (42 :: r) (sgT [42] :: bs) := sc_sign (.inr (.inr (.inl rfl))) h
theorem sc_lst {r : List UInt8} {bs : List BTok} (hb : Bound r) (h : Sc r bs) : Sc (108 :: 105 :: 115 :: 116 :: r) (kwT tkList :: bs) := sc_word (w := tkList) (by decide) hb h
theorem sc_x {a : Ty} (h : ClosedTy a) {r : List UInt8} {bs : List BTok} (hr : Sc r bs) : Sc (40 :: (mTxt a ++ 41 :: r)) (sgT [40] :: (bTxt a ++ sgT [41] :: bs)) := sc_open (sc_txt h _ _ (bound_cons (by decide)) (sc_close hr))
theorem sc_z {a : Ty} (h : ClosedTy a) {r : List UInt8} {bs : List BTok} (hr : Sc r bs) : Sc (40 :: 40 :: (mTxt a ++ 41 :: 41 :: r)) (sgT [40] :: sgT [40] :: (bTxt a ++ sgT [41] :: sgT [41] :: bs)) := sc_open (sc_x h (sc_close hr))
theorem loose_scan {a b c : Ty} (ha : ClosedTy a) (hb : ClosedTy b) (hc : ClosedTy c) (k : Nat) : Sc (loS k ([40] ++ mTxt a ++ [41]) ([40] ++ mTxt b ++ [41]) ([40, 40] ++ mTxt c ++ [41, 41])) (loP k a b c) := by
  match k with
  | 0 =>
    have h := sc_x ha (sc_star (sc_x hb (sc_arrow (sc_z hc sc_nil))))
    simpa [loS, loP] using h
  | 1 =>
    have h := sc_x ha (sc_arrow (sc_x hb (sc_arrow (sc_z hc sc_nil))))
    simpa [loS, loP] using h
  | 2 =>
    have h := sc_x ha (sc_arrow (sc_x hb (sc_star (sc_z hc (sc_lst bound_nil sc_nil)))))
    simpa [loS, loP, tkList] using h
  | 3 =>
    have h := sc_x ha (sc_blank (sc_lst (bound_cons (by decide)) (sc_blank (sc_lst (bound_cons (by decide)) (sc_star (sc_x hb (sc_blank (sc_lst (bound_cons (by decide)) (sc_arrow (sc_z hc sc_nil))))))))))
    simpa [loS, loP] using h
  | k + 4 =>
    have h := sc_open (sc_open (sc_x ha (sc_arrow (sc_x hb (sc_close (sc_close (sc_lst (bound_cons (by decide)) (sc_arrow (sc_z hc sc_nil)))))))))
    simpa [loS, loP] using h

end Go.Proofs.YtoadmjnaakbljaaDoor
