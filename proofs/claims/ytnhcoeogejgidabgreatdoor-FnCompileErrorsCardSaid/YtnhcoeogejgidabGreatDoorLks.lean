/- The library's sort of events, as a contract of ours. -/
import Derived.Test.YtnhcoeogejgidabGreatDoorShlS
import Derived.Test.YtnhcoeogejgidabGreatDoorSF
import Derived.Test.YtnhcoeogejgidabGreatDoorLk97
import Derived.Test.YtnhcoeogejgidabGreatDoorLpx
set_option linter.unusedVariables false
set_option linter.unusedSimpArgs false
namespace Go.Sx
open Go.Proofs Go.Sort Go.RowKit
set_option maxRecDepth 100000
set_option maxHeartbeats 1000000

section
variable {h : Heap}
theorem Sort_none {b : Option Addr} {c : Nat} {fv : Value} : CALL prg f_slices_SortFunc_sl_impl_Event_impl_Event #[.slice b 0 c, fv] (fun u h' => u = .tuple ⟨[]⟩ ∧ Ext h h') h := by
  refine slices_SortFunc_sl_impl_Event_impl_Event.call ((Len_c (l := 0) (by omega)).mono ?_)
  rintro _ h1 ⟨⟨n, rfl⟩, x1⟩
  have ins : ∀ h1, CALL prg f_slices_insertionSortCmpFunc_impl_Event #[.slice b 0 c, .int .i64 0, .int .i64 0, fv] (fun u h' => u = .tuple ⟨[]⟩ ∧ Ext h1 h') h1 := fun h1 => by
    refine slices_insertionSortCmpFunc_impl_Event.call ?_
    refine loop (fun y hh => ∃ i : Int, y = (b, 0, c, (0 : Int), (0 : Int), fv, i) ∧ 1 ≤ i ∧ Ext h1 hh) (fun _ => 0) ⟨1, rfl, by omega, Ext.refl _⟩ ?_
    rintro y hh ⟨i, rfl, hi, X⟩
    refine brd (fun k => ?_) fun _ => ⟨rfl, X⟩
    omega
  have pd : CALL prg f_slices_pdqsortCmpFunc_impl_Event #[.slice b 0 c, .int .i64 0, .int .i64 0, .int .i64 n, fv] (fun u h' => u = .tuple ⟨[]⟩ ∧ Ext h1 h') h1 := by
    refine slices_pdqsortCmpFunc_impl_Event.call ?_
    refine loop (fun y hh => ∃ z : Int, y = (b, 0, c, z, z, n, fv, true, true) ∧ z = 0 ∧ Ext h1 hh) (fun _ => 0) ⟨0, rfl, rfl, Ext.refl _⟩ ?_
    rintro y hh ⟨z, rfl, hz, X⟩
    refine brd (fun _ => ?_) fun k => ?_
    · subst hz
      exact goE X (ins hh) fun h3 x3 => ⟨rfl, x3⟩
    · subst hz
      exact absurd (show IntKind.i64.wrap ((0 : Int) - 0) ≤ 12 by decide) k
  exact as_i (goE x1 pd fun h2 x2 => ⟨rfl, x2⟩)
theorem enters_c1 (args : Array Value) (w : World) : (callFunc f_impl_compareEvents_c1 args).run prg w = .ok (.enter f_impl_compareEvents_c1 args) w := by
  unfold callFunc
  simp only [Sem.run_bind, run_program, Result.andThen_ok, Md.impl_compareEvents_c1.fn]
  rfl
theorem SortEvents_c {h0 : Heap} {B L : List Blk} {b : Option Addr} {l c g gc : Nat} {es : List GEvent} (O : SlO T_impl_Event rEvent B b l c es) (M : Mem h0 h (B ++ L)) (hc : cell h ⟨gc, 0, none⟩ = some (.map (some g))) (MI : MapI h g (ownM es))
    (hd : ∀ p ∈ B, p.1 ≠ g ∧ p.1 ≠ gc) (hl : l ≤ 4294967296) :
    CALL prg f_slices_SortFunc_sl_impl_Event_impl_Event #[.slice b l c, .func (.func f_impl_compareEvents_c1) #[] #[.pointer (some ⟨gc, 0, none⟩)]]
      (fun u h' => u = .tuple ⟨[]⟩ ∧ ∃ B' m, SlO T_impl_Event rEvent B' b l c m ∧ Mem h0 h' (B' ++ L) ∧ m.Perm es ∧ ∀ x y, x < y → y < m.length → lt4 (keyM es m[y]!) (keyM es m[x]!) = false) h := by
  have hlen : es.length = l := O.1
  by_cases hz : l = 0
  · subst hz
    refine Sort_none.mono ?_
    rintro _ h1 ⟨rfl, x1⟩
    exact ⟨rfl, B, es, O, M.grow x1, List.Perm.refl _, fun x y h1 h2 => by omega⟩
  obtain ⟨_, ws, B1, B2, rfl, Ow, h3⟩ := O
  rcases Ow.2 with ⟨_, _, h4, _⟩ | ⟨g0, cs, rfl, rfl, h5, h6, h7, h8⟩
  · omega
  have h7 : cs.size = c * 6 := h7
  have h8 : cs.toList.take (l * 6) = ws := h8
  have M1 : Mem h0 h ((g0, T_impl_Event, cs) :: (B2 ++ L)) := by simpa using M
  obtain ⟨d, e1, e2⟩ := encs_of (h3.look M1 ((List.sublist_append_left _ _).trans (List.sublist_cons_self _ _)))
  have hdl : d.length = l := by rw [← hlen, ← e1, List.length_map]
  obtain ⟨n1, n2⟩ := hd (g0, T_impl_Event, cs) (by simp)
  have n1 : g0 ≠ g := n1
  have n2 : g0 ≠ gc := n2
  have hb : g0 < h.size := M1.lt (.head _)
  obtain ⟨nm, k1, k2⟩ := LS.f6
  refine CALL_of_calls k2 rfl k1 fun w hw => ?_
  subst hw
  have hH : HoldsK encE 6 w g0 0 d.toArray := by
    intro j hj
    rw [Go.Sort.size_flatK] at hj
    have hj : j < d.length * 6 := hj
    constructor
    · rw [Nat.zero_add, cell_eq, M1.cell .here]
      have : cs[j]? = (cs.toList.take (l * 6))[j]? := by rw [List.getElem?_take_of_lt (by omega), Array.getElem?_toList]
      rw [this, h8, e2, flat_get hj, Go.Sort.get_flatK encE 6 d.toArray j hj]; rfl
    · rw [froz_eq]
      exact M1.froz .here _
  have hsz : d.toArray.size = l := hdl
  have key := AnyQ.slices_SortFunc LS 6 aES zES encE encE_len encE_one (cfE es) (swoE es) f_impl_compareEvents_c1 #[.pointer (some ⟨gc, 0, none⟩)] g0 0 c d.toArray w enters_c1 (cmp_lays hc MI (Ne.symm n1) (Ne.symm n2)) hH hb (by rw [hsz]; omega)
  rw [hsz] at key
  refine Calls.mono key ?_
  rintro e w' ⟨rfl, d', n, os, ⟨p1, _, p3⟩, so, rfl⟩
  obtain ⟨dl⟩ := d'
  have hdl' : dl.length = l := by rw [← hsz]; exact p1
  have p3 : dl.Perm d := by
    have a1 : (Array.extract (⟨dl⟩ : Array REv) 0 l).toList = dl := by simp [← hdl']
    have a2 : (Array.extract d.toArray 0 l).toList = d := by simp [← hdl]
    rw [a1, a2] at p3
    exact p3
  refine ⟨_, rfl, ⟨rfl, rfl, rfl, fun e => by cases e⟩, rfl, [(g0, T_impl_Event, Go.Sort.putCells id 0 (Go.Sort.flatK encE 6 dl.toArray) cs)], dl.map (fun x => x.1.1), ⟨by rw [List.length_map, hdl'], (dl.map encE).flatten, [(g0, T_impl_Event, Go.Sort.putCells id 0 (Go.Sort.flatK encE 6 dl.toArray) cs)], [], rfl, ⟨?_, .inr ⟨g0, _, rfl, rfl, h5, h6, ?_, ?_⟩⟩, encs_ow dl⟩, ?_, ?_, fun x y hxy hy => ?_⟩
  · rw [encs_len, hdl']; rfl
  · show (Array.mapIdx _ cs).size = _
    rw [Array.size_mapIdx]; exact h7
  · have := take_put (d := dl) (cs := cs) (by rw [hdl', h7]; exact Nat.mul_le_mul_right _ h5)
    rw [hdl'] at this
    exact this
  · exact (M1.sorted (d := dl)).sub (List.Sublist.cons_cons _ (List.sublist_append_right _ _))
  · rw [← e1]; exact p3.map _
  · rw [List.length_map] at hy
    have := so x y (Nat.zero_le _) hxy (by omega)
    rw [cfE_lt] at this
    rw [getElem!_pos _ y (by rw [List.length_map]; exact hy), getElem!_pos _ x (by rw [List.length_map]; omega), List.getElem_map, List.getElem_map]
    have g1 : (⟨dl⟩ : Array REv)[y]! = dl[y] := by rw [getElem!_pos (⟨dl⟩ : Array REv) y hy]; rfl
    have g2 : (⟨dl⟩ : Array REv)[x]! = dl[x]'(by omega) := by rw [getElem!_pos (⟨dl⟩ : Array REv) x (show x < dl.length by omega)]; rfl
    rw [g1, g2] at this
    exact this
end
end Go.Sx
/- The events of a score sorted by the program. -/
set_option linter.unusedVariables false
set_option linter.unusedSimpArgs false
namespace Go.Sx
open Go.Proofs
set_option maxRecDepth 100000
set_option maxHeartbeats 1000000

section
variable {α : Type} {r : Rep α} {h0 h : Heap} {q : Addr} {F : Fr} {L : List Blk} {a : α} {off : Nat} {get : α → List GEvent} {put : α → List GEvent → α}
theorem Pt.sortE {K : Heap → Prop} {ns : List GNote} (Pa : Pt r h0 h q F L a) [Fc : FocC r off (rSl T_impl_Event rEvent) get put] (hp : (get a).Perm (evsOf ns)) (hl : (get a).length ≤ 4294967296)
    (H : ∀ h', Pt r h0 h' q F L (put a (ordE ns)) → K h') :
    oL (cell h (q.add off)) fun b l c => oL (cell h (q.add off)) fun b' l' c' => CALL prg f_impl_starts #[.slice b' l' c'] (fun u h2 => PIN h (q.add off) 1 h2 <| CALL prg f_impl_compareEvents #[u] (fun v h3 => PIN h (q.add off) 1 h3 <|
      CALL prg f_slices_SortFunc_sl_impl_Event_impl_Event #[.slice b l c, v] (fun _ h4 => K h4) h3) h2) h := by
  obtain ⟨b, l, c, e, S⟩ := Pa.hdr (off := off)
  refine o_l e (o_l e ((starts_c S).mono ?_))
  rintro _ h2 ⟨g, rfl, hg, MI, x2⟩
  have pn : ∀ {h' : Heap} {p : Prop}, Ext h h' → p → PIN h (q.add off) 1 h' p := fun x H => pin x (fun j hj => ⟨.slice b l c, by obtain rfl : j = 0 := (by omega); rw [add0]; exact e⟩) H
  refine pn x2 ((compareEvents_c g).mono ?_)
  rintro _ h3 ⟨gc, rfl, hgc, hc, x3⟩
  refine pn (x2.trans x3) ?_
  obtain ⟨F1, C, P1, close⟩ := Pt.focX (L := L) Pa Fc.f
  obtain ⟨eq, mid, B, M, b', l', c', rfl, O⟩ := P1
  have e0 : cell h (q.add off) = some (.slice b' l' c') := by rw [eq, M.cell .here]; simp
  rw [e] at e0
  cases e0
  have hlen : (get a).length = l := O.1
  have M1 : Mem h0 h (B ++ ((F1.g, F1.T, ⟨F1.pre ++ ([.slice b l c] ++ F1.post)⟩) :: (C ++ L))) := M.perm List.perm_middle.symm
  have MI3 : MapI h3 g (ownM (get a)) := MI.ext x3
  refine (SortEvents_c O (M1.grow (x2.trans x3)) hc MI3 (fun p hp => ?_) (by omega)).mono ?_
  · have := M1.lt (List.mem_append_left _ hp)
    have := x2.le
    omega
  · rintro _ h4 ⟨rfl, B', m, O', M', pm, so⟩
    have Sm := sorted_keyM hp pm so
    have := close h0 h4 L (ordE ns) ⟨eq, [.slice b l c], B', M'.perm List.perm_middle, b, l, c, rfl, by rw [ordE_eq Sm]; exact O'⟩
    exact H h4 this.1
end
end Go.Sx
