/- Data in memory: what cells stand for, in blocks of one's own or wherever they lie; parts of data; data behind a pointer. -/
import Derived.Test.YtnhcoeogejgidabGreatDoorLg
set_option linter.unusedVariables false
set_option linter.unusedSimpArgs false
namespace Go.Sx

/-- How data of a type lie in cells: read anywhere, or with the blocks that are their own. -/
structure Rep (α : Type) where
  sz : Nat
  rd : Heap → List Value → α → Prop
  ow : List Blk → List Value → α → Prop
  rlen : ∀ {h vs a}, rd h vs a → vs.length = sz
  olen : ∀ {B vs a}, ow B vs a → vs.length = sz
  ext : ∀ {h h' vs a}, Ext h h' → rd h vs a → rd h' vs a
  look : ∀ {h0 h L B vs a}, ow B vs a → Mem h0 h L → B.Sublist L → rd h vs a
  rone : ∀ {h vs a}, rd h vs a → ∀ v ∈ vs, v.oneCell' = true
  oone : ∀ {B vs a}, ow B vs a → ∀ v ∈ vs, v.oneCell' = true

section
variable {α β γ : Type}
/-- A cell whose value is told. -/
def rOne (f : α → Value) (hf : ∀ a, (f a).oneCell' = true) : Rep α where
  sz := 1
  rd _ vs a := vs = [f a]
  ow B vs a := B = [] ∧ vs = [f a]
  rlen h := by subst h; rfl
  olen h := by obtain ⟨_, rfl⟩ := h; rfl
  ext _ h := h
  look h _ _ := h.2
  rone h v hv := by subst h; simp at hv; subst hv; exact hf _
  oone h v hv := by obtain ⟨_, rfl⟩ := h; simp at hv; subst hv; exact hf _
def rI (k : IntKind) : Rep Int := rOne (.int k) fun _ => rfl
def rB : Rep Bool := rOne .bool fun _ => rfl
/-- A string, no longer than any can be. -/
def rS : Rep ByteArray where
  sz := 1
  rd _ vs a := vs = [.string a] ∧ a.size ≤ maxLen
  ow B vs a := B = [] ∧ vs = [.string a] ∧ a.size ≤ maxLen
  rlen h := by obtain ⟨rfl, _⟩ := h; rfl
  olen h := by obtain ⟨_, rfl, _⟩ := h; rfl
  ext _ h := h
  look h _ _ := h.2
  rone h v hv := by obtain ⟨rfl, _⟩ := h; simp at hv; subst hv; rfl
  oone h v hv := by obtain ⟨_, rfl, _⟩ := h; simp at hv; subst hv; rfl
/-- The word x stands for the float a, up to which NaN it is. -/
def FW (k : FloatKind) (x a : Nat) : Prop := cn k x = a ∧ x < 2 ^ k.format.width
def rF (k : FloatKind) : Rep Nat where
  sz := 1
  rd _ vs a := ∃ x, vs = [.float k x] ∧ FW k x a
  ow B vs a := B = [] ∧ ∃ x, vs = [.float k x] ∧ FW k x a
  rlen h := by obtain ⟨_, rfl, _⟩ := h; rfl
  olen h := by obtain ⟨_, _, rfl, _⟩ := h; rfl
  ext _ h := h
  look h _ _ := h.2
  rone h v hv := by obtain ⟨_, rfl, _⟩ := h; simp at hv; subst hv; rfl
  oone h v hv := by obtain ⟨_, _, rfl, _⟩ := h; simp at hv; subst hv; rfl
def Rep.seq (r : Rep α) (s : Rep β) : Rep (α × β) where
  sz := r.sz + s.sz
  rd h vs a := ∃ v1 v2, vs = v1 ++ v2 ∧ r.rd h v1 a.1 ∧ s.rd h v2 a.2
  ow B vs a := ∃ B1 B2 v1 v2, B = B1 ++ B2 ∧ vs = v1 ++ v2 ∧ r.ow B1 v1 a.1 ∧ s.ow B2 v2 a.2
  rlen h := by obtain ⟨_, _, rfl, h1, h2⟩ := h; rw [List.length_append, r.rlen h1, s.rlen h2]
  olen h := by obtain ⟨_, _, _, _, rfl, rfl, h1, h2⟩ := h; rw [List.length_append, r.olen h1, s.olen h2]
  ext x h := by obtain ⟨_, _, rfl, h1, h2⟩ := h; exact ⟨_, _, rfl, r.ext x h1, s.ext x h2⟩
  look h M hs := by
    obtain ⟨_, _, _, _, rfl, rfl, h1, h2⟩ := h
    exact ⟨_, _, rfl, r.look h1 M ((List.sublist_append_left _ _).trans hs), s.look h2 M ((List.sublist_append_right _ _).trans hs)⟩
  rone h v hv := by
    obtain ⟨_, _, rfl, h1, h2⟩ := h
    rcases List.mem_append.1 hv with hv | hv
    · exact r.rone h1 v hv
    · exact s.rone h2 v hv
  oone h v hv := by
    obtain ⟨_, _, _, _, rfl, rfl, h1, h2⟩ := h
    rcases List.mem_append.1 hv with hv | hv
    · exact r.oone h1 v hv
    · exact s.oone h2 v hv
def Rep.via (r : Rep β) (f : α → β) : Rep α where
  sz := r.sz
  rd h vs a := r.rd h vs (f a)
  ow B vs a := r.ow B vs (f a)
  rlen h := r.rlen h
  olen h := r.olen h
  ext x h := r.ext x h
  look h M s := r.look h M s
  rone h := r.rone h
  oone h := r.oone h
def rds (r : Rep α) (h : Heap) : List Value → List α → Prop
  | vs, [] => vs = []
  | vs, a :: els => ∃ v1 v2, vs = v1 ++ v2 ∧ r.rd h v1 a ∧ rds r h v2 els
def ows (r : Rep α) : List Blk → List Value → List α → Prop
  | B, vs, [] => B = [] ∧ vs = []
  | B, vs, a :: els => ∃ B1 B2 v1 v2, B = B1 ++ B2 ∧ vs = v1 ++ v2 ∧ r.ow B1 v1 a ∧ ows r B2 v2 els
section
variable {r : Rep α}
theorem rds.len {h : Heap} : ∀ {els : List α} {vs : List Value}, rds r h vs els → vs.length = els.length * r.sz
  | [], vs, e => by rw [show vs = [] from e]; simp
  | a :: els, vs, e => by
    obtain ⟨v1, v2, rfl, h1, h2⟩ := e
    rw [List.length_append, r.rlen h1, rds.len h2, List.length_cons, Nat.add_mul]; omega
theorem ows.len : ∀ {els : List α} {B : List Blk} {vs : List Value}, ows r B vs els → vs.length = els.length * r.sz
  | [], B, vs, e => by rw [e.2]; simp
  | a :: els, B, vs, e => by
    obtain ⟨B1, B2, v1, v2, rfl, rfl, h1, h2⟩ := e
    rw [List.length_append, r.olen h1, ows.len h2, List.length_cons, Nat.add_mul]; omega
theorem rds.ext {h h' : Heap} (x : Ext h h') : ∀ {els : List α} {vs : List Value}, rds r h vs els → rds r h' vs els
  | [], vs, e => e
  | a :: els, vs, e => by obtain ⟨v1, v2, rfl, h1, h2⟩ := e; exact ⟨v1, v2, rfl, r.ext x h1, rds.ext x h2⟩
theorem ows.look {h0 h : Heap} {L : List Blk} (M : Mem h0 h L) : ∀ {els : List α} {B : List Blk} {vs : List Value}, ows r B vs els → B.Sublist L → rds r h vs els
  | [], B, vs, e, _ => e.2
  | a :: els, B, vs, e, s => by
    obtain ⟨B1, B2, v1, v2, rfl, rfl, h1, h2⟩ := e
    exact ⟨v1, v2, rfl, r.look h1 M ((List.sublist_append_left _ _).trans s), ows.look M h2 ((List.sublist_append_right _ _).trans s)⟩
theorem rds.one {h : Heap} : ∀ {els : List α} {vs : List Value}, rds r h vs els → ∀ v ∈ vs, v.oneCell' = true
  | [], vs, e, v, hv => by rw [show vs = [] from e] at hv; cases hv
  | a :: els, vs, e, v, hv => by
    obtain ⟨v1, v2, rfl, h1, h2⟩ := e
    rcases List.mem_append.1 hv with hv | hv
    · exact r.rone h1 v hv
    · exact rds.one h2 v hv
theorem ows.one : ∀ {els : List α} {B : List Blk} {vs : List Value}, ows r B vs els → ∀ v ∈ vs, v.oneCell' = true
  | [], B, vs, e, v, hv => by rw [e.2] at hv; cases hv
  | a :: els, B, vs, e, v, hv => by
    obtain ⟨B1, B2, v1, v2, rfl, rfl, h1, h2⟩ := e
    rcases List.mem_append.1 hv with hv | hv
    · exact r.oone h1 v hv
    · exact ows.one h2 v hv
/-- One element of several. -/
theorem rds.at {h : Heap} : ∀ {els : List α} {vs : List Value} {i : Nat} (hi : i < els.length), rds r h vs els →
    ∃ pre mid post, pre.length = i * r.sz ∧ vs = pre ++ (mid ++ post) ∧ r.rd h mid els[i] ∧ rds r h pre (els.take i) ∧ rds r h post (els.drop (i + 1))
  | [], vs, i, hi, e => by simp at hi
  | a :: els, vs, 0, hi, e => by
    obtain ⟨v1, v2, rfl, h1, h2⟩ := e
    exact ⟨[], v1, v2, by simp, by simp, h1, rfl, by simpa using h2⟩
  | a :: els, vs, i + 1, hi, e => by
    obtain ⟨v1, v2, rfl, h1, h2⟩ := e
    obtain ⟨pre, mid, post, e1, rfl, h3, h4, h5⟩ := rds.at (i := i) (by simpa using hi) h2
    refine ⟨v1 ++ pre, mid, post, ?_, by simp, h3, ⟨v1, pre, rfl, h1, h4⟩, by simpa using h5⟩
    rw [List.length_append, r.rlen h1, e1, Nat.add_mul]; omega
theorem ows.at : ∀ {els : List α} {B : List Blk} {vs : List Value} {i : Nat} (hi : i < els.length), ows r B vs els →
    ∃ pre mid post B1 Bm B2, pre.length = i * r.sz ∧ vs = pre ++ (mid ++ post) ∧ B = B1 ++ (Bm ++ B2) ∧ r.ow Bm mid els[i] ∧ ∀ B' mid' a', r.ow B' mid' a' → ows r (B1 ++ (B' ++ B2)) (pre ++ (mid' ++ post)) (els.set i a')
  | [], B, vs, i, hi, e => by simp at hi
  | a :: els, B, vs, 0, hi, e => by
    obtain ⟨B1, B2, v1, v2, rfl, rfl, h1, h2⟩ := e
    exact ⟨[], v1, v2, [], B1, B2, by simp, by simp, by simp, h1, fun B' mid' a' o => ⟨B', B2, mid', v2, by simp, by simp, o, h2⟩⟩
  | a :: els, B, vs, i + 1, hi, e => by
    obtain ⟨B1, B2, v1, v2, rfl, rfl, h1, h2⟩ := e
    obtain ⟨pre, mid, post, C1, Cm, C2, e1, rfl, rfl, h3, h4⟩ := ows.at (i := i) (by simpa using hi) h2
    refine ⟨v1 ++ pre, mid, post, B1 ++ C1, Cm, C2, ?_, by simp, by simp, h3, fun B' mid' a' o => ⟨B1, _, v1, _, by simp, by simp, h1, h4 B' mid' a' o⟩⟩
    rw [List.length_append, r.olen h1, e1, Nat.add_mul]; omega
theorem ows.append : ∀ {els bs : List α} {B C : List Blk} {vs ws : List Value}, ows r B vs els → ows r C ws bs → ows r (B ++ C) (vs ++ ws) (els ++ bs)
  | [], bs, B, C, vs, ws, e, f => by obtain ⟨rfl, rfl⟩ := e; exact f
  | a :: els, bs, B, C, vs, ws, e, f => by
    obtain ⟨B1, B2, v1, v2, rfl, rfl, h1, h2⟩ := e
    exact ⟨B1, B2 ++ C, v1, v2 ++ ws, by simp, by simp, h1, ows.append h2 f⟩
theorem rds.append {h : Heap} : ∀ {els bs : List α} {vs ws : List Value}, rds r h vs els → rds r h ws bs → rds r h (vs ++ ws) (els ++ bs)
  | [], bs, vs, ws, e, f => by rw [show vs = [] from e]; exact f
  | a :: els, bs, vs, ws, e, f => by
    obtain ⟨v1, v2, rfl, h1, h2⟩ := e
    exact ⟨v1, v2 ++ ws, by simp, h1, rds.append h2 f⟩
end
/-- An array. -/
def rArr (n : Nat) (r : Rep α) : Rep (List α) where
  sz := n * r.sz
  rd h vs a := a.length = n ∧ rds r h vs a
  ow B vs a := a.length = n ∧ ows r B vs a
  rlen h := by rw [h.2.len, h.1]
  olen h := by rw [h.2.len, h.1]
  ext x h := ⟨h.1, h.2.ext x⟩
  look h M s := ⟨h.1, h.2.look M s⟩
  rone h := h.2.one
  oone h := h.2.one
/-- What a slice's header shows. -/
def SlR (r : Rep α) (h : Heap) (b : Option Addr) (l c : Nat) (els : List α) : Prop := els.length = l ∧ l ≤ c ∧ c ≤ maxLen ∧ ∃ ws, Cells h b ws ∧ rds r h ws els
def SlO (e : Nat) (r : Rep α) (B : List Blk) (b : Option Addr) (l c : Nat) (els : List α) : Prop := els.length = l ∧ ∃ ws B1 B2, B = B1 ++ B2 ∧ Own B1 e r.sz b l c ws ∧ ows r B2 ws els
theorem SlR.ext {r : Rep α} {h h' : Heap} {b : Option Addr} {l c : Nat} {els : List α} (x : Ext h h') (S : SlR r h b l c els) : SlR r h' b l c els := by
  obtain ⟨h1, h2, h3, ws, h4, h5⟩ := S
  exact ⟨h1, h2, h3, ws, h4.ext x, h5.ext x⟩
theorem Own.max {B : List Blk} {e sz : Nat} {b : Option Addr} {l c : Nat} {vs : List Value} (O : Own B e sz b l c vs) : c ≤ maxLen := by
  rcases O.2 with ⟨_, _, h2, h3⟩ | ⟨g, cs, _, _, _, h2, _⟩
  · omega
  · exact h2
theorem SlO.look {e : Nat} {r : Rep α} {B L : List Blk} {b : Option Addr} {l c : Nat} {els : List α} {h0 h : Heap} (S : SlO e r B b l c els) (M : Mem h0 h L) (s : B.Sublist L) : SlR r h b l c els := by
  obtain ⟨h1, ws, B1, B2, rfl, h2, h3⟩ := S
  exact ⟨h1, h2.le, h2.max, ws, h2.cells M ((List.sublist_append_left _ _).trans s), h3.look M ((List.sublist_append_right _ _).trans s)⟩
/-- A slice; e: the type of its elements. -/
def rSl (e : Nat) (r : Rep α) : Rep (List α) where
  sz := 1
  rd h vs els := ∃ b l c, vs = [.slice b l c] ∧ SlR r h b l c els
  ow B vs els := ∃ b l c, vs = [.slice b l c] ∧ SlO e r B b l c els
  rlen h := by obtain ⟨_, _, _, rfl, _⟩ := h; rfl
  olen h := by obtain ⟨_, _, _, rfl, _⟩ := h; rfl
  ext x h := by obtain ⟨_, _, _, rfl, h1⟩ := h; exact ⟨_, _, _, rfl, h1.ext x⟩
  look h M s := by obtain ⟨_, _, _, rfl, h1⟩ := h; exact ⟨_, _, _, rfl, h1.look M s⟩
  rone h v hv := by obtain ⟨_, _, _, rfl, _⟩ := h; simp at hv; subst hv; rfl
  oone h v hv := by obtain ⟨_, _, _, rfl, _⟩ := h; simp at hv; subst hv; rfl

structure Foc (r : Rep α) (p : Rep β) (off : Nat) (get : α → β) (put : α → β → α) : Prop where
  fr : ∀ {h vs a}, r.rd h vs a → ∃ pre mid post, pre.length = off ∧ vs = pre ++ (mid ++ post) ∧ p.rd h mid (get a)
  fo : ∀ {B vs a}, r.ow B vs a → ∃ pre mid post B1 Bm B2, pre.length = off ∧ vs = pre ++ (mid ++ post) ∧ B = B1 ++ (Bm ++ B2) ∧ p.ow Bm mid (get a) ∧
    ∀ B' mid' b', p.ow B' mid' b' → r.ow (B1 ++ (B' ++ B2)) (pre ++ (mid' ++ post)) (put a b')
theorem Foc.here (r : Rep α) : Foc r r 0 (fun a => a) (fun _ b => b) where
  fr h := ⟨[], _, [], rfl, by simp, h⟩
  fo h := ⟨[], _, [], [], _, [], rfl, by simp, by simp, h, fun B' mid' b' o => by simpa using o⟩
theorem Foc.fst {r : Rep α} {s : Rep γ} {p : Rep β} {off : Nat} {get : α → β} {put : α → β → α} (F : Foc r p off get put) : Foc (r.seq s) p off (fun a => get a.1) (fun a b => (put a.1 b, a.2)) where
  fr h := by
    obtain ⟨v1, v2, rfl, h1, h2⟩ := h
    obtain ⟨pre, mid, post, e, rfl, h3⟩ := F.fr h1
    exact ⟨pre, mid, post ++ v2, e, by simp, h3⟩
  fo h := by
    obtain ⟨C1, C2, v1, v2, rfl, rfl, h1, h2⟩ := h
    obtain ⟨pre, mid, post, B1, Bm, B2, e, rfl, rfl, h3, h4⟩ := F.fo h1
    exact ⟨pre, mid, post ++ v2, B1, Bm, B2 ++ C2, e, by simp, by simp, h3, fun B' mid' b' o => ⟨_, _, _, _, by simp, by simp, h4 B' mid' b' o, h2⟩⟩
theorem Foc.snd {r : Rep γ} {s : Rep α} {p : Rep β} {off : Nat} {get : α → β} {put : α → β → α} (F : Foc s p off get put) : Foc (r.seq s) p (r.sz + off) (fun a => get a.2) (fun a b => (a.1, put a.2 b)) where
  fr h := by
    obtain ⟨v1, v2, rfl, h1, h2⟩ := h
    obtain ⟨pre, mid, post, e, rfl, h3⟩ := F.fr h2
    exact ⟨v1 ++ pre, mid, post, by simp [r.rlen h1, e], by simp, h3⟩
  fo h := by
    obtain ⟨C1, C2, v1, v2, rfl, rfl, h1, h2⟩ := h
    obtain ⟨pre, mid, post, B1, Bm, B2, e, rfl, rfl, h3, h4⟩ := F.fo h2
    exact ⟨v1 ++ pre, mid, post, C1 ++ B1, Bm, B2, by simp [r.olen h1, e], by simp, by simp, h3, fun B' mid' b' o => ⟨C1, _, v1, _, by simp, by simp, h1, h4 B' mid' b' o⟩⟩
theorem Foc.via {r : Rep γ} {p : Rep β} {off : Nat} {f : α → γ} {get : γ → β} {put : γ → β → γ} {get' : α → β} {put' : α → β → α} (F : Foc r p off get put) (e1 : ∀ a, get' a = get (f a)) (e2 : ∀ a b, f (put' a b) = put (f a) b) : Foc (r.via f) p off get' put' where
  fr h := by
    obtain ⟨pre, mid, post, e, rfl, h3⟩ := F.fr h
    exact ⟨pre, mid, post, e, rfl, by rw [e1]; exact h3⟩
  fo h := by
    obtain ⟨pre, mid, post, B1, Bm, B2, e, rfl, rfl, h3, h4⟩ := F.fo h
    exact ⟨pre, mid, post, B1, Bm, B2, e, rfl, rfl, by rw [e1]; exact h3, fun B' mid' b' o => by show r.ow _ _ (f _); rw [e2]; exact h4 B' mid' b' o⟩
theorem Foc.arr [Inhabited α] {n : Nat} (r : Rep α) (i : Nat) (hi : i < n) : Foc (rArr n r) r (i * r.sz) (fun l => l[i]!) (fun l b => l.set i b) where
  fr h := by
    obtain ⟨e0, h⟩ := h
    obtain ⟨pre, mid, post, e, rfl, h3, _⟩ := h.at (i := i) (by omega)
    exact ⟨pre, mid, post, e, rfl, by rw [getElem!_pos _ i (by omega)]; exact h3⟩
  fo h := by
    obtain ⟨e0, h⟩ := h
    obtain ⟨pre, mid, post, B1, Bm, B2, e, rfl, rfl, h3, h4⟩ := h.at (i := i) (by omega)
    exact ⟨pre, mid, post, B1, Bm, B2, e, rfl, rfl, by rw [getElem!_pos _ i (by omega)]; exact h3, fun B' mid' b' o => ⟨by simpa using e0, h4 B' mid' b' o⟩⟩
theorem Foc.trans {r : Rep α} {p : Rep β} {q : Rep γ} {o1 o2 : Nat} {g1 : α → β} {p1 : α → β → α} {g2 : β → γ} {p2 : β → γ → β} (F : Foc r p o1 g1 p1) (G : Foc p q o2 g2 p2) :
    Foc r q (o1 + o2) (fun a => g2 (g1 a)) (fun a c => p1 a (p2 (g1 a) c)) where
  fr h := by
    obtain ⟨pre, mid, post, e, rfl, h3⟩ := F.fr h
    obtain ⟨pre', mid', post', e', rfl, h3'⟩ := G.fr h3
    exact ⟨pre ++ pre', mid', post' ++ post, by simp [e, e'], by simp, h3'⟩
  fo h := by
    obtain ⟨pre, mid, post, B1, Bm, B2, e, rfl, rfl, h3, h4⟩ := F.fo h
    obtain ⟨pre', mid', post', C1, Cm, C2, e', rfl, rfl, h3', h4'⟩ := G.fo h3
    refine ⟨pre ++ pre', mid', post' ++ post, B1 ++ C1, Cm, C2 ++ B2, by simp [e, e'], by simp, by simp, h3', fun B' m b o => ?_⟩
    have := h4 _ _ _ (h4' B' m b o)
    simpa using this
theorem Foc.at {r : Rep α} {p : Rep β} {off off' : Nat} {get : α → β} {put : α → β → α} (F : Foc r p off get put) (e : off' = off) : Foc r p off' get put := by subst e; exact F
/-- Parts that are found by their places. -/
class FocC {α : Type} {β : outParam Type} (r : Rep α) (off : Nat) (p : outParam (Rep β)) (get : outParam (α → β)) (put : outParam (α → β → α)) : Prop where
  f : Foc r p off get put

/-- At this address lie cells that stand for a. -/
def RdP (r : Rep α) (h : Heap) (a : Addr) (x : α) : Prop := ∃ vs, (∀ i v, vs[i]? = some v → cell h (a.add i) = some v) ∧ r.rd h vs x
section
variable {r : Rep α} {h : Heap} {a : Addr} {x : α} {off : Nat}
theorem RdP.ext {h' : Heap} (X : Ext h h') (R : RdP r h a x) : RdP r h' a x := by
  obtain ⟨vs, h1, h2⟩ := R
  exact ⟨vs, fun i v e => X.cell (h1 i v e), r.ext X h2⟩
theorem RdP.foc {p : Rep β} {get : α → β} {put : α → β → α} (R : RdP r h a x) (F : Foc r p off get put) : RdP p h (a.add off) (get x) := by
  obtain ⟨vs, h1, h2⟩ := R
  obtain ⟨pre, mid, post, e, rfl, h3⟩ := F.fr h2
  refine ⟨mid, fun i v hi => ?_, h3⟩
  rw [add_add']
  refine h1 _ _ ?_
  rw [← e, List.getElem?_append_right (Nat.le_add_right _ _), Nat.add_sub_cancel_left, List.getElem?_append_left (List.getElem?_eq_some_iff.1 hi).1, hi]
theorem RdP.cell {p : Rep β} {get : α → β} {put : α → β → α} (R : RdP r h a x) (F : Foc r p off get put) (hp : p.sz = 1) : ∃ v, cell h (a.add off) = some v ∧ p.rd h [v] (get x) := by
  obtain ⟨vs, h1, h2⟩ := R.foc F
  have := p.rlen h2
  rw [hp] at this
  obtain ⟨v, rfl⟩ := List.length_eq_one_iff.1 this
  have := h1 0 v rfl
  simp only [Addr.add, if_pos] at this
  exact ⟨v, this, h2⟩
theorem RdP.oI {k : IntKind} {get : α → Int} {put : α → Int → α} {K : Int → Prop} (R : RdP r h a x) [F : FocC r off (rI k) get put] (H : K (get x)) : oI k (Sx.cell h (a.add off)) K := by
  obtain ⟨v, e, e2⟩ := R.cell F.f rfl
  exact o_i (e.trans (congrArg some (by simpa [rI, rOne] using e2))) H
theorem RdP.oB {get : α → Bool} {put : α → Bool → α} {K : Bool → Prop} (R : RdP r h a x) [F : FocC r off rB get put] (H : K (get x)) : oB (Sx.cell h (a.add off)) K := by
  obtain ⟨v, e, e2⟩ := R.cell F.f rfl
  exact o_b (e.trans (congrArg some (by simpa [rB, rOne] using e2))) H
theorem RdP.oS {get : α → ByteArray} {put : α → ByteArray → α} {K : ByteArray → Prop} (R : RdP r h a x) [F : FocC r off rS get put] (H : (get x).size ≤ maxLen → K (get x)) : oS (Sx.cell h (a.add off)) K := by
  obtain ⟨v, e, e2⟩ := R.cell F.f rfl
  obtain ⟨e3, e4⟩ := e2
  exact o_s (e.trans (congrArg some (by simpa using e3))) (H e4)
theorem RdP.oF {k : FloatKind} {get : α → Nat} {put : α → Nat → α} {K : Nat → Prop} (R : RdP r h a x) [F : FocC r off (rF k) get put] (H : ∀ y, FW k y (get x) → K y) : oF k (Sx.cell h (a.add off)) K := by
  obtain ⟨v, e, y, e2, e3⟩ := R.cell F.f rfl
  obtain rfl : v = .float k y := by simpa using e2
  exact o_f e (H y e3)
theorem RdP.oL {e : Nat} {s : Rep β} {get : α → List β} {put : α → List β → α} {K : Option Addr → Nat → Nat → Prop} (R : RdP r h a x) [F : FocC r off (rSl e s) get put] (H : ∀ b l c, SlR s h b l c (get x) → K b l c) : oL (Sx.cell h (a.add off)) K := by
  obtain ⟨v, e, b, l, c, e2, e3⟩ := R.cell F.f rfl
  obtain rfl : v = .slice b l c := by simpa using e2
  exact o_l e (H b l c e3)
theorem RdP.lda {p : Rep β} {n : Nat} {get : α → β} {put : α → β → α} {K : Array Value → Prop} (R : RdP r h a x) (F : Foc r p off get put) (hn : p.sz = n) (H : ∀ cs : Array Value, p.rd h cs.toList (get x) → K cs) : LDA n h (a.add off) K := by
  obtain ⟨vs, h1, h2⟩ := R.foc F
  have hl := p.rlen h2
  refine ⟨⟨vs⟩, by simpa [hn] using hl, fun j hj => ?_, H ⟨vs⟩ h2⟩
  have hj' : j < vs.length := by omega
  rw [h1 j _ (List.getElem?_eq_getElem hj')]
  simp [hj']
end
/-- An element of a slice that is read. -/
theorem SlR.elem [Inhabited α] {r : Rep α} {h : Heap} {b : Option Addr} {l c i : Nat} {els : List α} (S : SlR r h b l c els) (hi : i < l) (hz : 0 < r.sz) : ∃ a, b = some a ∧ RdP r h (a.add (i * r.sz)) els[i]! := by
  obtain ⟨h1, h2, h3, ws, h4, h5⟩ := S
  obtain ⟨pre, mid, post, e1, rfl, h6, _⟩ := h5.at (i := i) (by omega)
  have key : ∀ j v, mid[j]? = some v → (pre ++ (mid ++ post))[i * r.sz + j]? = some v := by
    intro j v hj
    rw [← e1, List.getElem?_append_right (Nat.le_add_right _ _), Nat.add_sub_cancel_left, List.getElem?_append_left (List.getElem?_eq_some_iff.1 hj).1, hj]
  have hl := r.rlen h6
  obtain ⟨a, rfl⟩ := h4.base (by simp; omega)
  exact ⟨a, rfl, mid, fun j v hj => by rw [add_add']; exact h4.get (key j v hj), by rw [getElem!_pos _ i (by omega)]; exact h6⟩
end
end Go.Sx
