/- Two scores joined, plainly. -/
import Derived.Test.YtnhcoeogejgidacGreatDoorLk97
import Derived.Test.YtnhcoeogejgidacGreatDoorLk37
import Derived.Test.YtnhcoeogejgidacGreatDoorLp7
import Derived.Test.YtnhcoeogejgidacGreatDoorLh0
import Derived.Test.YtnhcoeogejgidacGreatDoorLh4
import Derived.Test.YtnhcoeogejgidacGreatDoorTab
import Derived.Test.YtnhcoeogejgidacGreatDoorLk24
import Derived.Test.YtnhcoeogejgidacGreatDoorLks
set_option linter.unusedVariables false
set_option linter.unusedSimpArgs false
namespace Go.Sx

noncomputable def ordE (ns : List GNote) : List GEvent := Classical.epsilon (Sorted ns)
noncomputable def notesE (es : List GEvent) : List GNote := Classical.epsilon fun ns => NInv es es.length ns
section
variable {ns ms : List GNote} {l es : List GEvent} {ni : Int}
theorem ordE_eq (S : Sorted ns l) : ordE ns = l := Sorted.unique (Classical.epsilon_spec ⟨l, S⟩) S
theorem leN_total (a b : GEvent) : leN ns a b ∨ leN ns b a := by
  unfold leN
  cases h : lt4 (keyN ns b) (keyN ns a) with
  | false => exact .inl rfl
  | true =>
    right
    rw [Bool.eq_false_iff]
    intro h2
    have := lt4_trans h h2
    rw [lt4_irrefl] at this; cases this
theorem sorted_ex (ns : List GNote) : ∃ l, Sorted ns l := by
  refine ⟨(evsOf ns).mergeSort fun a b => !lt4 (keyN ns b) (keyN ns a), List.mergeSort_perm _ _, ?_⟩
  have key := List.pairwise_mergeSort (le := fun a b => !lt4 (keyN ns b) (keyN ns a)) (fun a b c h1 h2 => ?_) (fun a b => ?_) (evsOf ns)
  · refine key.imp fun {a b} h => ?_
    simpa using h
  · simp only [Bool.not_eq_true'] at h1 h2 ⊢
    exact leN_trans h1 h2
  · rcases leN_total (ns := ns) a b with h | h
    · rw [show lt4 (keyN ns b) (keyN ns a) = false from h]; rfl
    · rw [show lt4 (keyN ns a) (keyN ns b) = false from h]; simp
theorem ordE_sorted (ns : List GNote) : Sorted ns (ordE ns) := Classical.epsilon_spec (sorted_ex ns)
theorem NInv.unique (G : EvGood es ni) (I : NInv es es.length ns) (J : NInv es es.length ms) : ns = ms := by
  refine List.ext_getElem (by rw [I.len, J.len]) fun k h1 h2 => ?_
  have hk : k < es.length / 2 := by rw [← I.len]; exact h1
  obtain ⟨j, hj, hs, hn⟩ := G.all isSt (.inl rfl) hk
  obtain ⟨i, hi, hp, hm⟩ := G.all isSp (.inr rfl) hk
  obtain ⟨a1, a2, a3, a4⟩ := I.st j hj hs
  obtain ⟨b1, b2, b3, b4⟩ := J.st j hj hs
  have a5 := I.sp i hi hp
  have b5 := J.sp i hi hp
  rw [hn, Int.toNat_natCast] at a1 a2 a3 a4 b1 b2 b3 b4
  rw [hm, Int.toNat_natCast] at a5 b5
  rw [← getElem!_pos ns k h1, ← getElem!_pos ms k h2]
  generalize ns[k]! = x at *
  generalize ms[k]! = y at *
  cases x; cases y
  simp only at a1 a2 a3 a4 a5 b1 b2 b3 b4 b5
  subst a1 a2 a3 a4 a5
  rw [b1, b2, b3, b4, b5]
theorem notesE_eq (G : EvGood es ni) (I : NInv es es.length ns) : notesE es = ns := NInv.unique G (Classical.epsilon_spec ⟨ns, I⟩) I
theorem NInv.exist (G : EvGood es ni) : ∃ ns, NInv es es.length ns := by
  have : ∀ i, i ≤ es.length → ∃ ns, NInv es i ns := by
    intro i
    induction i with
    | zero => exact fun _ => ⟨List.replicate (es.length / 2) default, NInv.zero (by rw [List.length_replicate])⟩
    | succ i ih =>
      intro hi
      obtain ⟨ns, I⟩ := ih (by omega)
      rcases kind_of (G.part i (by omega)) with h | h
      · exact ⟨_, I.stop G (by omega) h.1⟩
      · exact ⟨_, I.start G (by omega) h.1⟩
  exact this _ (Nat.le_refl _)
end
noncomputable def GScore.ground (s t : GScore) : Bool := (s.Rate == t.Rate) && same s.Tuning t.Tuning && same s.Instruments t.Instruments
noncomputable def GScore.join (s t : GScore) (n : Int) : GScore × Int :=
  if s.ok && t.ok then if inR n 0 100000 && t.Events.all (fun e => decide (e.At + n ≤ 100000)) then if s.ground t then
    if s.Events.length + t.Events.length ≤ 128 then ({ s with Events := ordE (notesE s.Events ++ (notesE t.Events).map (shN n)) }, 0) else (z_Score, 3) else (z_Score, 4) else (z_Score, 2) else (z_Score, 1)
end Go.Sx
/- Own data as elements of an own slice: written whole, the blocks of what is written taken out of the frame. -/
set_option linter.unusedVariables false
set_option linter.unusedSimpArgs false
namespace Go.Sx

section
variable {α β : Type} {r : Rep α} {h0 h : Heap} {q : Addr} {F : Fr} {L : List Blk} {a : α} {off : Nat}
/-- A part, whatever frame it has. -/
theorem Pt.focX {p : Rep β} {get : α → β} {put : α → β → α} (P : Pt r h0 h q F L a) (Fc : Foc r p off get put) : ∃ F' C, Pt p h0 h (q.add off) F' (C ++ L) (get a) ∧ ∀ h0' h' L' b', Pt p h0' h' (q.add off) F' (C ++ L') b' → Pt r h0' h' q F L' (put a b') ∧ ∀ k, (k < off ∨ off + p.sz ≤ k) → cell h' (q.add k) = cell h (q.add k) := by
  obtain ⟨rfl, mid, B, M, O⟩ := P
  obtain ⟨pre, md, post, B1, Bm, B2, e1, rfl, rfl, O1, O2⟩ := Fc.fo O
  refine ⟨⟨F.g, F.T, F.pre ++ pre, post ++ F.post⟩, B1 ++ B2, ⟨?_, md, Bm, ?_, O1⟩, fun h0' h' L' b' P' => ?_⟩
  · rw [add_none]; simp [e1]
  · have := M.perm (perm_out _ _ _ _ _)
    simpa using this
  · obtain ⟨_, md', B', M', O'⟩ := P'
    have M'' : Mem h0' h' ((F.g, F.T, ⟨(F.pre ++ pre) ++ (md' ++ (post ++ F.post))⟩) :: (B' ++ (B1 ++ (B2 ++ L')))) := by simpa using M'
    have M2 := M''.perm (perm_out _ _ _ _ _).symm
    refine ⟨⟨rfl, pre ++ (md' ++ post), B1 ++ (B' ++ B2), by simpa using M2, O2 B' md' b' O'⟩, fun k hk => ?_⟩
    have l1 := p.olen O1
    have l2 := p.olen O'
    rw [add_none, M.cell .here, M2.cell .here]
    simp only [List.getElem?_toArray, List.append_assoc]
    rw [List.getElem?_append_right (Nat.le_add_right _ _), List.getElem?_append_right (Nat.le_add_right _ _)]
    rw [Nat.add_sub_cancel_left]
    rcases hk with hk | hk
    · rw [List.getElem?_append_left (by omega), List.getElem?_append_left (by omega)]
    · rw [List.getElem?_append_right (l₁ := pre) (by omega), List.getElem?_append_right (l₁ := pre) (by omega), List.getElem?_append_right (l₁ := md') (by omega), List.getElem?_append_right (l₁ := md) (by omega), l1, l2]
/-- An element, whatever frame its slice has. -/
theorem SlO.elemX [Inhabited β] {e : Nat} {s : Rep β} {B : List Blk} {b : Option Addr} {l c i : Nat} {els : List β} (S : SlO e s B b l c els) (hi : i < l) :
    ∃ a0 F' C, b = some a0 ∧ (∀ h0 h L, Mem h0 h (B ++ L) → Pt s h0 h (a0.add (i * s.sz)) F' (C ++ L) els[i]!) ∧ ∀ h0' h' L' x, Pt s h0' h' (a0.add (i * s.sz)) F' (C ++ L') x → ∃ B', SlO e s B' b l c (els.set i x) ∧ Mem h0' h' (B' ++ L') := by
  obtain ⟨h1, ws, B1, B2, rfl, O, h3⟩ := S
  rcases O.2 with ⟨_, _, h4, _⟩ | ⟨g, cs, rfl, rfl, h5, h6, h7, h8⟩
  · omega
  obtain ⟨pre, mid, post, C1, Cm, C2, e1, e2, rfl, O1, O2⟩ := h3.at (i := i) (by omega)
  have hc : cs = ⟨pre ++ (mid ++ (post ++ cs.toList.drop (l * s.sz)))⟩ := by
    have : cs.toList = ws ++ cs.toList.drop (l * s.sz) := by rw [← h8, List.take_append_drop]
    rw [e2] at this
    cases cs; simpa using this
  refine ⟨_, ⟨g, e, pre, post ++ cs.toList.drop (l * s.sz)⟩, C1 ++ C2, rfl, fun h0 h L M => ⟨?_, mid, Cm, ?_, by rw [getElem!_pos _ i (by omega)]; exact O1⟩, fun h0' h' L' x P' => ?_⟩
  · rw [add_none]; simp [e1]
  · rw [← hc]
    have : Mem h0 h ((g, e, cs) :: ((C1 ++ (Cm ++ C2)) ++ L)) := by simpa using M
    have := this.perm (perm_out _ _ _ _ _)
    simpa using this
  · obtain ⟨_, md', B', M', O'⟩ := P'
    have hm := s.olen O'
    have hm0 := s.olen O1
    have hws : ws.length = l * s.sz := O.1
    have hlen : (pre ++ (md' ++ post)).length = l * s.sz := by rw [← hws, e2]; simp [hm, hm0]
    refine ⟨(g, e, ⟨pre ++ (md' ++ (post ++ cs.toList.drop (l * s.sz)))⟩) :: (C1 ++ (B' ++ C2)), ⟨by simpa using h1, pre ++ (md' ++ post), [_], _, rfl, ⟨hlen, .inr ⟨g, _, rfl, rfl, h5, h6, ?_, ?_⟩⟩, O2 _ _ _ O'⟩, ?_⟩
    · have : cs.toList.length = c * s.sz := by simpa using h7
      have hle := Nat.mul_le_mul_right s.sz h5
      simp only [List.size_toArray]
      have : (pre ++ (md' ++ (post ++ cs.toList.drop (l * s.sz)))).length = (pre ++ (md' ++ post)).length + (cs.toList.drop (l * s.sz)).length := by simp; omega
      rw [this, hlen, List.length_drop]; omega
    · show List.take _ (pre ++ (md' ++ (post ++ _))) = _
      have e5 : pre ++ (md' ++ (post ++ cs.toList.drop (l * s.sz))) = (pre ++ (md' ++ post)) ++ cs.toList.drop (l * s.sz) := by simp
      rw [e5, ← hlen]
      exact List.take_left
    · have M'' : Mem h0' h' ((g, e, ⟨pre ++ (md' ++ (post ++ cs.toList.drop (l * s.sz)))⟩) :: (B' ++ (C1 ++ (C2 ++ L')))) := by simpa using M'
      have := M''.perm (perm_out _ _ _ _ _).symm
      simpa using this
theorem Pt.elemX [Inhabited β] {e : Nat} {s : Rep β} {get : α → List β} {put : α → List β → α} {i l c : Nat} {b : Option Addr} (P : Pt r h0 h q F L a) [Fc : FocC r off (rSl e s) get put] (hb : cell h (q.add off) = some (.slice b l c)) (hi : i < l) :
    ∃ a0 F' C, b = some a0 ∧ Pt s h0 h (a0.add (i * s.sz)) F' (C ++ L) (get a)[i]! ∧ ∀ h0' h' L' x, Pt s h0' h' (a0.add (i * s.sz)) F' (C ++ L') x → Pt r h0' h' q F L' (put a ((get a).set i x)) ∧ ∀ k, cell h' (q.add k) = cell h (q.add k) := by
  obtain ⟨F1, C1, P1, close⟩ := P.focX Fc.f
  obtain ⟨eq, mid, B, M, b', l', c', rfl, S⟩ := P1
  have e0 : cell h (q.add off) = some (.slice b' l' c') := by
    rw [eq, M.cell .here]; simp
  rw [hb] at e0
  cases e0
  obtain ⟨a0, F2, C2, rfl, P2, close2⟩ := S.elemX hi
  refine ⟨a0, F2, C2 ++ ((F1.g, F1.T, ⟨F1.pre ++ ([.slice (some a0) l c] ++ F1.post)⟩) :: C1), rfl, ?_, fun h0' h' L' x P' => ?_⟩
  · have := P2 h0 h ((F1.g, F1.T, ⟨F1.pre ++ ([.slice (some a0) l c] ++ F1.post)⟩) :: (C1 ++ L)) (M.perm List.perm_middle.symm)
    simpa using this
  · have P'' : Pt s h0' h' (a0.add (i * s.sz)) F2 (C2 ++ ((F1.g, F1.T, ⟨F1.pre ++ ([.slice (some a0) l c] ++ F1.post)⟩) :: (C1 ++ L'))) x := by simpa using P'
    obtain ⟨B', S', M'⟩ := close2 h0' h' _ x P''
    have M2 := M'.perm List.perm_middle
    obtain ⟨P3, hk⟩ := close h0' h' _ _ ⟨eq, [.slice (some a0) l c], B', M2, _, _, _, rfl, S'⟩
    refine ⟨P3, fun k => ?_⟩
    by_cases h1 : k < off ∨ off + (rSl e s).sz ≤ k
    · exact hk k h1
    · obtain rfl : k = off := by
        have : (rSl e s).sz = 1 := rfl
        omega
      rw [hb, eq, M2.cell .here]; simp
/-- An element written whole. -/
theorem Pt.stE [Inhabited β] {e : Nat} {s : Rep β} {get : α → List β} {put : α → List β → α} {i l c n : Nat} {b : Option Addr} {vs : Array Value} {B' : List Blk} {x : β} {K : Heap → Prop} (P : Pt r h0 h q F (B' ++ L) a) [Fc : FocC r off (rSl e s) get put] (hb : cell h (q.add off) = some (.slice b l c)) (hi : i < l) (hn : s.sz = n) (O : s.ow B' vs.toList x)
    (H : ∀ h', Pt r h0 h' q F L (put a ((get a).set i x)) → (∀ k, cell h' (q.add k) = cell h (q.add k)) → K h') : ∃ a0, b = some a0 ∧ STA n h (a0.add (i * n)) vs K := by
  subst hn
  obtain ⟨a0, F', C, rfl, P1, close⟩ := P.elemX hb hi
  refine ⟨a0, rfl, ?_⟩
  have P2 : Pt s h0 h (a0.add (i * s.sz)) F' (B' ++ (C ++ L)) (get a)[i]! := P1.cnt fun p => by simp only [cnt_app]; omega
  refine P2.sts0 (Foc.here s) rfl O fun h' P3 => ?_
  obtain ⟨P4, e4⟩ := close _ _ _ _ P3
  exact H h' P4 e4
end
end Go.Sx
/- One element appended to an own slice beside own data. -/
set_option linter.unusedVariables false
set_option linter.unusedSimpArgs false
namespace Go.Sx
open Go.Proofs
set_option maxRecDepth 100000
set_option maxHeartbeats 1000000

section
variable {α β : Type} {r : Rep α} {s : Rep β} {P : Program} {h0 h : Heap} {q : Addr} {F : Fr} {B L : List Blk} {d : α} {t e bytes ty : Nat} {b : Option Addr} {l c : Nat} {xs : List β} {K : Value → Heap → Prop}
/-- One element appended to an own slice beside own data. -/
theorem Pt.push {cs : Array Value} {x : β} (Pa : Pt r h0 h q F (B ++ L) d) (E : ElemT P t e s.sz bytes) (O : SlO e s B b l c xs) (Ox : s.ow [] cs.toList x) (hmax : l + 1 ≤ maxLen) (hbytes : (l + 1) * bytes ≤ 140737488355328)
    (H : ∀ b' c' h' B', SlO e s B' b' (l + 1) c' (xs ++ [x]) → Pt r h0 h' q F (B' ++ L) d → K (.slice b' (l + 1) c') h') :
    ALC cs e (fun g h => SEMV P (Builtin.append_ #[t, t] ty #[.slice b l c, .slice (some ⟨g, 0, none⟩) 1 1]) K h) h := by
  obtain ⟨e1, mid, BR, M, OR⟩ := Pa
  refine push_own (Bn := []) (L := (F.g, F.T, ⟨F.pre ++ (mid ++ F.post)⟩) :: (BR ++ L)) E O (M.cnt fun p => by simp only [cnt_app, cnt_cons, cnt_nil]; omega) Ox hmax hbytes fun b' c' h' B' O' M' => H b' c' h' B' O' ⟨e1, mid, BR, M'.cnt fun p => ?_, OR⟩
  simp only [cnt_app, cnt_cons, cnt_nil]; omega
end
end Go.Sx
/- One element appended to an own slice of own data, and stored there. -/
set_option linter.unusedVariables false
set_option linter.unusedSimpArgs false
namespace Go.Sx
open Go.Proofs

section
variable {α β : Type} {r : Rep α} {s : Rep β} {P : Program} {h0 h : Heap} {q : Addr} {F : Fr} {L Bn : List Blk} {a : α} {off t e bytes ty : Nat} {get : α → List β} {put : α → List β → α} {cs : Array Value} {x : β}
theorem Pt.pushX (Pa : Pt r h0 h q F (Bn ++ L) a) [Fc : FocC r off (rSl e s) get put] (E : ElemT P t e s.sz bytes) (Ox : s.ow Bn cs.toList x) (hmax : (get a).length + 1 ≤ maxLen) (hbytes : ((get a).length + 1) * bytes ≤ 140737488355328) :
    ∃ b l c, cell h (q.add off) = some (.slice b l c) ∧ ∀ K : Heap → Prop, (∀ h', Pt r h0 h' q F L (put a (get a ++ [x])) → K h') →
      ALC cs e (fun g h => SEMV P (Builtin.append_ #[t, t] ty #[.slice b l c, .slice (some ⟨g, 0, none⟩) 1 1]) (fun u h => asL u fun b l c => ST1 h (q.add off) (.slice b l c) K) h) h := by
  obtain ⟨F1, C, P1, close⟩ := Pa.focX Fc.f
  obtain ⟨eq, mid, B, M, b, l, c, rfl, O⟩ := P1
  have hl : (get a).length = l := O.1
  refine ⟨b, l, c, by rw [eq, M.cell .here]; simp, fun K H => ?_⟩
  refine push_own (L := (F1.g, F1.T, ⟨F1.pre ++ ([.slice b l c] ++ F1.post)⟩) :: (C ++ L)) E O (M.cnt fun p => by simp only [cnt_app, cnt_cons, cnt_nil]; omega) Ox (by omega) (by rw [← hl]; exact hbytes) fun b' c' h' B' O' M' => as_l ?_
  rw [eq]
  have M2 : Mem h0 h' ((F1.g, F1.T, ⟨F1.pre ++ ([.slice b l c] ++ F1.post)⟩) :: (B' ++ (C ++ L))) := M'.cnt fun p => by simp only [cnt_app, cnt_cons, cnt_nil]; omega
  refine M2.st1M rfl fun h2 M3 => H h2 ?_
  exact (close h0 h2 L _ ⟨eq, [.slice b' (l + 1) c'], B', M3, _, _, _, rfl, O'⟩).1
end
end Go.Sx
/- The events of a score sorted by the program. -/
set_option linter.unusedVariables false
set_option linter.unusedSimpArgs false
namespace Go.Sx
open Go.Proofs
set_option maxRecDepth 100000
set_option maxHeartbeats 1000000

section
variable {α : Type} {r : Rep α} {h0 h : Heap} {q : Addr} {F : Fr} {L : List Blk} {a : α} {off : Nat} {get : α → List GEvent} {put : α → List GEvent → α}
theorem Pt.sortE {K : Heap → Prop} {ns : List GNote} (Pa : Pt r h0 h q F L a) [Fc : FocC r off (rSl T_impl_Event rEvent) get put] (hp : (get a).Perm (evsOf ns)) (hl : (get a).length ≤ 4294967296)
    (H : ∀ h', Pt r h0 h' q F L (put a (ordE ns)) → K h') :
    oL (cell h (q.add off)) fun b l c => oL (cell h (q.add off)) fun b' l' c' => CALL prg f_impl_starts #[.slice b' l' c'] (fun u h2 => PIN h (q.add off) 1 h2 <| CALL prg f_impl_compareEvents #[u] (fun v h3 => PIN h (q.add off) 1 h3 <|
      CALL prg f_slices_SortFunc_sl_impl_Event_impl_Event #[.slice b l c, v] (fun _ h4 => K h4) h3) h2) h := by
  obtain ⟨b, l, c, e, S⟩ := Pa.hdr (off := off)
  refine o_l e (o_l e ((starts_c S).mono ?_))
  rintro _ h2 ⟨g, rfl, hg, MI, x2⟩
  have pn : ∀ {h' : Heap} {p : Prop}, Ext h h' → p → PIN h (q.add off) 1 h' p := fun x H => pin x (fun j hj => ⟨.slice b l c, by obtain rfl : j = 0 := (by omega); rw [add0]; exact e⟩) H
  refine pn x2 ((compareEvents_c g).mono ?_)
  rintro _ h3 ⟨gc, rfl, hgc, hc, x3⟩
  refine pn (x2.trans x3) ?_
  obtain ⟨F1, C, P1, close⟩ := Pt.focX (L := L) Pa Fc.f
  obtain ⟨eq, mid, B, M, b', l', c', rfl, O⟩ := P1
  have e0 : cell h (q.add off) = some (.slice b' l' c') := by rw [eq, M.cell .here]; simp
  rw [e] at e0
  cases e0
  have hlen : (get a).length = l := O.1
  have M1 : Mem h0 h (B ++ ((F1.g, F1.T, ⟨F1.pre ++ ([.slice b l c] ++ F1.post)⟩) :: (C ++ L))) := M.perm List.perm_middle.symm
  have MI3 : MapI h3 g (ownM (get a)) := MI.ext x3
  refine (SortEvents_c O (M1.grow (x2.trans x3)) hc MI3 (fun p hp => ?_) (by omega)).mono ?_
  · have := M1.lt (List.mem_append_left _ hp)
    have := x2.le
    omega
  · rintro _ h4 ⟨rfl, B', m, O', M', pm, so⟩
    have Sm := sorted_keyM hp pm so
    have := close h0 h4 L (ordE ns) ⟨eq, [.slice b l c], B', M'.perm List.perm_middle, b, l, c, rfl, by rw [ordE_eq Sm]; exact O'⟩
    exact H h4 this.1
end
end Go.Sx
/- Events of notes, sorted by the rule. -/
set_option linter.unusedVariables false
set_option linter.unusedSimpArgs false
namespace Go.Sx
open Go.Proofs
set_option maxRecDepth 100000
set_option maxHeartbeats 1000000

theorem flat_Note : Flat rNote := flat_via (flat_seq (flat_I _) (flat_seq (flat_I _) (flat_seq (flat_I _) (flat_seq (flat_I _) (flat_F _)))))
theorem ow_rd {α : Type} {r : Rep α} {vs : List Value} {a : α} {h : Heap} (O : r.ow [] vs a) : r.rd h vs a := r.look O (Mem.start h) (List.Sublist.refl _)
abbrev startV (i : Nat) (n : GNote) (r : Nat) : Array Value := ⟨[.int .i64 n.At, .int .i64 2, .int .i64 i, .int .i64 n.Instrument, .int .i64 n.Key, .float .f32 r]⟩
abbrev stopV (i : Nat) (n : GNote) : Array Value := ⟨[.int .i64 n.End, .int .i64 1, .int .i64 i, .int .i64 0, .int .i64 0, .float .f32 0]⟩
/-- The state of the rule's sorting: own events and own keys. -/
structure SortS (h hh : Heap) (ns : List GNote) (n : Nat) (ob : Option Addr) (oc : Nat) (kb : Option Addr) (kc : Nat) (l : List GEvent) (B1 B2 : List Blk) : Prop where
  M : Mem h hh (B1 ++ B2)
  O : SlO T_impl_Event rEvent B1 ob n oc l
  K : SlO T_4_int64 rKey B2 kb n kc (l.map (keyN ns))
section
variable {h : Heap}
theorem compiled_sort {ns : List GNote} {n : Nat} {ob kb : Option Addr} {oc kc : Nat} {l : List GEvent} {B1 B2 : List Blk} {hh : Heap} (hn : n ≤ 128) (hl : l.length = n) (S : SortS h hh ns n ob oc kb kc l B1 B2) (hp : l.Perm (evsOf ns)) :
    LOOP (spec_l08Compiled.B12 (fun u h' => ∃ b c B l, u = .slice b n c ∧ SlO T_impl_Event rEvent B b n c l ∧ Sorted ns l ∧ Mem h h' B)) (ob, n, oc, kb, n, kc, (1 : Int)) hh := by
  refine loop (fun y hh => ∃ i l B1 B2, y = (ob, n, oc, kb, n, kc, ((i : Nat) : Int)) ∧ 1 ≤ i ∧ l.length = n ∧ SortS h hh ns n ob oc kb kc l B1 B2 ∧ UpTo ns i l)
    (fun y => ((n : Int) - y.2.2.2.2.2.2).toNat) ⟨1, l, B1, B2, rfl, by omega, hl, S, UpTo.start hp⟩ ?_
  clear S hp hl
  rintro y hh ⟨i, l, B1, B2, rfl, hi, hl, S, U⟩
  refine brd (fun hc => ?_) fun hc => ⟨ob, oc, B1, l, rfl, S.O, U.sorted (by omega), S.M.sub (List.sublist_append_left _ _)⟩
  have hin : i < n := by omega
  refine loop (fun y hh => ∃ k l B1 B2, y = (ob, n, oc, kb, n, kc, ((i : Nat) : Int), ((k : Nat) : Int)) ∧ l.length = n ∧ SortS h hh ns n ob oc kb kc l B1 B2 ∧ Sink ns i k l)
    (fun y => y.2.2.2.2.2.2.2.toNat) ⟨i, l, B1, B2, rfl, hl, S, U.sink (by omega)⟩ ?_
  clear S U hl
  rintro y hh ⟨k, l, B1, B2, rfl, hl, S, K⟩
  have hki := K.hk
  have done : ∀ {h' : Heap} {l : List GEvent} {B1 B2 : List Blk}, l.length = n → SortS h h' ns n ob oc kb kc l B1 B2 → UpTo ns (i + 1) l →
      ((∃ i' l B1 B2, (ob, n, oc, kb, n, kc, IntKind.i64.wrap ((i : Int) + 1)) = (ob, n, oc, kb, n, kc, ((i' : Nat) : Int)) ∧ 1 ≤ i' ∧ l.length = n ∧ SortS h h' ns n ob oc kb kc l B1 B2 ∧ UpTo ns i' l) ∧
      ((n : Int) - IntKind.i64.wrap ((i : Int) + 1)).toNat < ((n : Int) - i).toNat) := fun hl S U =>
    ⟨⟨i + 1, _, _, _, by rw [wrap64_succ (by omega)], by omega, hl, S, U⟩, by rw [wrap64_succ (by omega)]; omega⟩
  refine brd (fun hk => ?_) fun hk => done hl S (K.done (.inl (by omega)))
  have hk0 : 0 < k := by omega
  have hkn : k < n := by omega
  have e1 : IntKind.i64.wrap ((k : Int) - 1) = ((k - 1 : Nat) : Int) := by rw [wrap64 (by omega) (by omega)]; omega
  rw [e1]
  have SK := S.K.look S.M (List.sublist_append_right _ _)
  have em : ∀ j, j < n → (l.map (keyN ns))[j]! = keyN ns l[j]! := fun j hj => by
    rw [getElem!_pos _ j (by rw [List.length_map]; omega), List.getElem_map, getElem!_pos l j (by omega)]
  refine SK.idn (by decide) hkn fun a Ra => Ra.lda1 rfl fun c1 R1 => SK.idn (by decide) (show k - 1 < n by omega) fun a' Ra' => Ra'.lda1 rfl fun c2 R2 => ?_
  rw [em k hkn] at R1
  rw [em (k - 1) (by omega)] at R2
  rw [key_agg R1, key_agg R2]
  refine goX (l08Less_c rfl rfl) fun h2 x2 => as_b (br (fun hb => ?_) fun hb => done hl ⟨S.M.grow x2, S.O, S.K⟩ (K.done (.inr hb)))
  unfold spec_l08Compiled.J17
  rw [e1]
  refine S.O.swap (S.M.grow x2) flat_Event hk0 hkn rfl ev_sz rfl fun h3 B3 O3 M3 => ?_
  refine S.K.swap (L := B3) (M3.perm List.perm_append_comm) flat_Key hk0 hkn rfl (by decide) rfl fun h4 B4 K4 M4 => ?_
  refine ⟨⟨k - 1, swpL l k, B3, B4, rfl, by rw [swp_len, hl], ⟨M4.perm List.perm_append_comm, O3, ?_⟩, K.swap hk0 hb⟩, by show (k - 1 : Nat) < _; simp; omega⟩
  rw [swp_map (keyN ns) hk0 (by omega)]
  exact K4
theorem l08Compiled_c {nb : Option Addr} {nc n : Nat} {ns : List GNote} (S0 : SlR rNote h nb n nc ns) (hn : n ≤ 64) :
    CALL prg f_spec_l08Compiled #[.slice nb n nc] (fun u h' => ∃ b c B l, u = .slice b (2 * n) c ∧ SlO T_impl_Event rEvent B b (2 * n) c l ∧ Sorted ns l ∧ Mem h h' B) h := by
  have hl : ns.length = n := S0.len
  have hmx : 128 ≤ maxLen := by decide
  refine spec_l08Compiled.call ((Mem.start h).alc fun g1 h1 x1 M1 => M1.alc fun g3 h2 x2 M2 => ?_)
  refine loop (fun y hh => ∃ i m ob oc kb kc B1 B2, y = (nb, n, nc, ob, m, oc, kb, m, kc, ((i : Nat) : Int)) ∧ i ≤ n ∧ m = 2 * i ∧ Mem h hh (B1 ++ B2) ∧ SlO T_impl_Event rEvent B1 ob m oc (evsOf (ns.take i)) ∧ SlO T_4_int64 rKey B2 kb m kc ((evsOf (ns.take i)).map (keyN ns)))
    (fun y => ((n : Int) - y.2.2.2.2.2.2.2.2.2).toNat) ⟨0, 0, _, _, _, _, [_], [_], rfl, by omega, rfl, M2.perm (List.Perm.swap _ _ _), SlO.empty g1, SlO.empty g3⟩ ?_
  clear M1 M2
  rintro y hh ⟨i, m, ob, oc, kb, kc, B1, B2, rfl, hi, hm, M, O, K⟩
  refine brd (fun hc => ?_) fun hc => ?_
  · have hin : i < n := by omega
    refine (S0.ext M.ext).idn (by decide) hin fun a Ra => Ra.lda1 rfl fun c5 R5 => ?_
    have O5 : rNote.ow [] c5.toList ns[i]! := flat_Note _ _ _ R5
    refine M.alc fun g9 h10 x10 M => M.sta0 .here (rsz R5 rfl) (rNote.rone R5) rfl .here fun h11 M => ?_
    have E : RdP rNote h11 ⟨g9, 0, none⟩ ns[i]! := M.rdp .here (ow_rd O5)
    refine E.oI2 (E.oI2 (E.oI2 (E.oF2 fun r hr => ?_)))
    have hz : FW .f32 0 0 := fw_c32 (by decide) (by decide)
    have Os : rEvent.ow [] (startV i ns[i]! r).toList (startE i ns[i]!) := event_ow hr
    have Op : rEvent.ow [] (stopV i ns[i]!).toList (stopE i ns[i]!) := event_ow hz
    refine M.alc fun g16 h17 x17 M => M.sta0 .here (vs := startV i ns[i]! r) rfl (rEvent.oone (B := []) Os) rfl .here fun h18 M => ?_
    have E : RdP rNote h18 ⟨g9, 0, none⟩ ns[i]! := M.rdp (.there .here) (ow_rd O5)
    refine E.oI2 (M.alc fun g20 h21 x21 M => M.sta0 .here (vs := stopV i ns[i]!) rfl (rEvent.oone (B := []) Op) rfl .here fun h22 M => ?_)
    refine M.lda0 (.there .here) rfl (M.lda0 .here rfl (siz rfl (siz rfl ?_)))
    refine push2_own (L := (g20, T_impl_Event, stopV i ns[i]!) :: (g16, T_impl_Event, startV i ns[i]! r) :: (g9, T_spec_l08Note, c5) :: B2) E_sl_impl_Event O (M.cnt fun p => by simp only [cnt_app, cnt_cons, cnt_nil]; omega) ⟨[], [], _, _, rfl, rfl, Os, [], [], _, [], rfl, rfl, Op, rfl, rfl⟩ (by omega) (by show (m + 2) * 48 ≤ _; omega) fun b' c' h28 B1' O' M => as_l ?_
    have M := M.cnt (W := (g20, T_impl_Event, stopV i ns[i]!) :: (g16, T_impl_Event, startV i ns[i]! r) :: (g9, T_spec_l08Note, c5) :: (B1' ++ B2)) fun p => by simp only [cnt_app, cnt_cons, cnt_nil]; omega
    have E : RdP rNote h28 ⟨g9, 0, none⟩ ns[i]! := M.rdp (.there (.there .here)) (ow_rd O5)
    refine E.oI2 (E.oI2 (goX (l08Key_c (M.rdp (.there .here) (ow_rd Os)) _) fun h33 x33 => as_a (E.pin0 (by decide) x33 ?_)))
    have M := M.grow x33
    refine goM M (l08Key_c (M.rdp .here (ow_rd Op)) _) fun h36 M => as_a (siz (keyV_size _) (siz (keyV_size _) ?_))
    have Ky : ows rKey [] ((keyV (keyN ns (startE i ns[i]!))).toList ++ (keyV (keyN ns (stopE i ns[i]!))).toList) [keyN ns (startE i ns[i]!), keyN ns (stopE i ns[i]!)] := ⟨[], [], _, _, rfl, rfl, ⟨rfl, rfl, rfl⟩, [], [], _, [], rfl, (List.append_nil _).symm, ⟨rfl, rfl, rfl⟩, rfl, rfl⟩
    refine push2_own (L := (g20, T_impl_Event, stopV i ns[i]!) :: (g16, T_impl_Event, startV i ns[i]! r) :: (g9, T_spec_l08Note, c5) :: B1') E_sl_4_int64 K (M.cnt fun p => by simp only [cnt_app, cnt_cons, cnt_nil]; omega) Ky (by omega) (by show (m + 2) * 32 ≤ _; omega) fun b2 c2 h41 B2' K' M => as_l ?_
    have e1 : ns.take (i + 1) = ns.take i ++ [ns[i]!] := take_snoc (by omega)
    have e2 : (ns.take i).length = i := by rw [List.length_take]; omega
    refine ⟨⟨i + 1, m + 2, b', c', b2, c2, B1', B2', by rw [wrap64_succ (by omega)], by omega, by omega, M.cnt fun p => by simp only [cnt_app, cnt_cons, cnt_nil]; omega, ?_, ?_⟩, by rw [wrap64_succ (by omega)]; show ((n : Int) - ((i + 1 : Nat) : Int)).toNat < ((n : Int) - (i : Int)).toNat; omega⟩
    · rw [e1, evsOf_snoc, e2]; exact O'
    · rw [e1, evsOf_snoc, e2, List.map_append]; exact K'
  · obtain rfl : i = n := by omega
    subst hm
    rw [show ns.take i = ns by rw [← hl, List.take_length]] at O K
    exact compiled_sort (by omega) (by rw [evsOf_len, hl]) ⟨M, O, K⟩ (List.Perm.refl _)
end
end Go.Sx
