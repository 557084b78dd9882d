/- Contracts of the kit's shelf, laid at the seat's program. -/
import Derived.Test.YtnhcoeogejgidabGreatDoorTab
import Derived.Shelf.SlSortCmp.WholeK
import Derived.Ground.SlsfProg
import Derived.Shelf.SlGeneric
import Derived.Test.YtnhcoeogejgidabGreatDoorLkm
import Derived.Test.YtnhcoeogejgidabGreatDoorLm22
import Derived.Test.YtnhcoeogejgidabGreatDoorLk30
import Derived.Test.YtnhcoeogejgidabGreatDoorLm14
import Derived.Test.YtnhcoeogejgidabGreatDoorTabE
namespace Go.Proofs
open Go.Shelf
def Tryz.laysS_ren : Go.Shelf.Ren := ⟨fun | 6 => 23 | 15 => 61 | 14 => 60 | 28 => 97 | 29 => 98 | 20 => 89 | 21 => 90 | 22 => 91 | 23 => 92 | 24 => 93 | 25 => 94 | 26 => 95 | 27 => 96 | 46 => 115 | 47 => 116 | 48 => 117 | 49 => 118 | 50 => 119 | 57 => 138 | n => n, fun | 22 => 27 | 24 => 65 | 25 => 66 | 3 => 3 | 39 => 39 | 0 => 0 | 53 => 134 | 55 => 110 | 4 => 4 | 46 => 127 | 45 => 126 | 50 => 131 | 5 => 5 | 9 => 9 | 66 => 148 | 70 => 152 | 76 => 167 | 77 => 168 | n => n, fun | n => n⟩
theorem Tryz.laysS : Go.Proofs.SlLaysF0.n6 Tryz.prog Tryz.laysS_ren := {
  mixed := by kernel_rfl
  f6 := ⟨Tryz.f23.name, by decide, Tryz.func23.trans (congrArg some (by kernel_rfl))⟩
  f14 := ⟨Tryz.f60.name, by decide, Tryz.func60.trans (congrArg some (by kernel_rfl))⟩
  f15 := Tryz.func61.trans (congrArg some (by kernel_rfl))
  f20 := ⟨Tryz.f89.name, by decide, Tryz.func89.trans (congrArg some (by kernel_rfl))⟩
  f21 := ⟨Tryz.f90.name, by decide, Tryz.func90.trans (congrArg some (by kernel_rfl))⟩
  f22 := ⟨Tryz.f91.name, by decide, Tryz.func91.trans (congrArg some (by kernel_rfl))⟩
  f23 := ⟨Tryz.f92.name, by decide, Tryz.func92.trans (congrArg some (by kernel_rfl))⟩
  f24 := ⟨Tryz.f93.name, by decide, Tryz.func93.trans (congrArg some (by kernel_rfl))⟩
  f25 := ⟨Tryz.f94.name, by decide, Tryz.func94.trans (congrArg some (by kernel_rfl))⟩
  f26 := ⟨Tryz.f95.name, by decide, Tryz.func95.trans (congrArg some (by kernel_rfl))⟩
  f27 := ⟨Tryz.f96.name, by decide, Tryz.func96.trans (congrArg some (by kernel_rfl))⟩
  f28 := Tryz.func97.trans (congrArg some (by kernel_rfl))
  f29 := Tryz.func98.trans (congrArg some (by kernel_rfl))
  f46 := ⟨Tryz.f115.name, by decide, Tryz.func115.trans (congrArg some (by kernel_rfl))⟩
  f47 := Tryz.func116.trans (congrArg some (by kernel_rfl))
  f48 := Tryz.func117.trans (congrArg some (by kernel_rfl))
  f49 := ⟨Tryz.f118.name, by decide, Tryz.func118.trans (congrArg some (by kernel_rfl))⟩
  f50 := ⟨Tryz.f119.name, by decide, Tryz.func119.trans (congrArg some (by kernel_rfl))⟩
  f57 := ⟨Tryz.f138.name, by decide, Tryz.func138.trans (congrArg some (by kernel_rfl))⟩
  t0 := Tryz.underlying0
  a0 := Tryz.isAgg0
  z0 := Tryz.sizeOf0
  v0 := Tryz.zeroValue0
  t3 := Tryz.underlying3
  a3 := Tryz.isAgg3
  z3 := Tryz.sizeOf3
  v3 := Tryz.zeroValue3
  t4 := Tryz.underlying4
  a4 := Tryz.isAgg4
  z4 := Tryz.sizeOf4
  v4 := Tryz.zeroValue4
  t5 := Tryz.underlying5
  a5 := Tryz.isAgg5
  z5 := Tryz.sizeOf5
  v5 := Tryz.zeroValue5
  t9 := Tryz.underlying9
  a9 := Tryz.isAgg9
  z9 := Tryz.sizeOf9
  v9 := Tryz.zeroValue9
  t22 := Tryz.underlying27
  a22 := Tryz.isAgg27
  z22 := Tryz.sizeOf27
  v22 := Tryz.zeroValue27
  t25 := Tryz.underlying66
  a25 := Tryz.isAgg66
  z25 := Tryz.sizeOf66
  v25 := Tryz.zeroValue66
  t39 := Tryz.underlying39
  a39 := Tryz.isAgg39
  z39 := Tryz.sizeOf39
  v39 := Tryz.zeroValue39
  t45 := Tryz.underlying126
  a45 := Tryz.isAgg126
  z45 := Tryz.sizeOf126
  v45 := Tryz.zeroValue126
  t46 := Tryz.underlying127
  a46 := Tryz.isAgg127
  z46 := Tryz.sizeOf127
  v46 := Tryz.zeroValue127
  t50 := Tryz.underlying131
  a50 := Tryz.isAgg131
  z50 := Tryz.sizeOf131
  v50 := Tryz.zeroValue131
  t53 := Tryz.underlying134
  a53 := Tryz.isAgg134
  z53 := Tryz.sizeOf134
  v53 := Tryz.zeroValue134
  t55 := Tryz.underlying110
  a55 := Tryz.isAgg110
  z55 := Tryz.sizeOf110
  v55 := Tryz.zeroValue110
  t66 := Tryz.underlying148
  a66 := Tryz.isAgg148
  z66 := Tryz.sizeOf148
  v66 := Tryz.zeroValue148
  t70 := Tryz.underlying152
  a70 := Tryz.isAgg152
  z70 := Tryz.sizeOf152
  v70 := Tryz.zeroValue152
  t76 := Tryz.underlying167
  a76 := Tryz.isAgg167
  z76 := Tryz.sizeOf167
  v76 := Tryz.zeroValue167
  t77 := Tryz.underlying168
  a77 := Tryz.isAgg168
  z77 := Tryz.sizeOf168
  v77 := Tryz.zeroValue168 }
end Go.Proofs
namespace Go.Sx
open Go.Proofs
abbrev RS : Go.Shelf.Ren := Go.Proofs.Tryz.laysS_ren
theorem LS : Go.Proofs.SlLaysF0.n6 prg RS := Go.Proofs.Tryz.laysS
end Go.Sx
namespace Go.Sx
open Go.Proofs
theorem aES : ∀ w, (isAgg (RS.t 24)).run prg w = .ok true w := Tryz.isAgg65
theorem zES : ∀ w, (Go.sizeOf (RS.t 24)).run prg w = .ok 6 w := Tryz.sizeOf65
end Go.Sx
/- Events sorted by the library's sort: the shelf's contract. -/
set_option linter.unusedVariables false
set_option linter.unusedSimpArgs false
namespace Go.Sx
open Go.Proofs Go.Sort Go.RowKit
set_option maxRecDepth 100000
set_option maxHeartbeats 1000000

@[reducible] def modeT : Mode := ⟨true⟩
theorem grow_of {w w' : World} (s : @Same modeT w w') (x : Ext w.heap w'.heap) : w' = Sort.grow (w.drewN (w'.drawn - w.drawn)) (w'.heap.extract w.heap.size w'.heap.size) := by
  have hd := @Same.drawn modeT _ _ s rfl
  have e1 := @Same.os modeT _ _ s
  have e2 := @Same.tape modeT _ _ s
  have e3 := @Same.output modeT _ _ s
  have hh : w'.heap = w.heap ++ w'.heap.extract w.heap.size w'.heap.size := by
    apply Array.ext_getElem?
    intro i
    by_cases hi : i < w.heap.size
    · rw [Array.getElem?_append_left hi, x.eq i hi]
    · rw [Array.getElem?_append_right (by omega), Array.getElem?_extract]
      by_cases h2 : i < w'.heap.size
      · rw [if_pos (by omega)]
        congr 1; omega
      · rw [if_neg (by omega), Array.getElem?_eq_none (by omega)]
  cases w with | mk h t d o u => cases w' with | mk h' t' d' o' u' =>
  simp only at *
  subst e1 e2 e3
  show World.mk _ _ _ _ _ = World.mk (h ++ _) t' (d + (d' - d)) o' u'
  rw [show d + (d' - d) = d' by omega, ← hh]
/-- A call that tells its draws, at a world. -/
theorem calls_grow {P : Program} {f : FuncId} {fn : Func} {args : Array Value} {v : Value} {W : World} (hf : P.funcs[f]? = some fn) (hb : fn.body.isNone = false) (hn : (fn.name == "runtime.NumGoroutine") = false)
    (H : @CALL modeT P f args (fun u h' => u = v ∧ Ext W.heap h') W.heap) : Calls P f args W fun e w' => e = .returned v ∧ ∃ q os', w' = Sort.grow (W.drewN q) os' := by
  have h := H W rfl
  have hrun : (callFunc f args).run P W = .ok (.enter f args) W := by
    unfold callFunc
    simp only [Sem.run_bind, run_program, Result.andThen_ok, hf, hn, hb, Bool.false_eq_true, if_false]
    rfl
  rw [hrun] at h
  refine Calls.mono h ?_
  rintro e w' ⟨u, rfl, s, rfl, x⟩
  exact ⟨rfl, _, _, grow_of s x⟩
/-- An event and the word of its force. -/
def REv := { p : GEvent × Nat // FW .f32 p.2 p.1.Force }
instance : Inhabited REv := ⟨⟨(z_Event, 0), fw_c32 (by decide) (by decide)⟩⟩
def evV (e : GEvent) (r : Nat) : List Value := [.int .i64 e.At, .int .i64 e.Kind, .int .i64 e.Note, .int .i64 e.Instrument, .int .i64 e.Key, .float .f32 r]
def encE (x : REv) : List Value := evV x.1.1 x.1.2
theorem encE_len (x : REv) : (encE x).length = 6 := rfl
theorem encE_one (x : REv) : ∀ v ∈ encE x, v.oneCell' = true := fun v hv => by
  simp only [encE, evV, List.mem_cons, List.not_mem_nil, or_false] at hv
  rcases hv with rfl | rfl | rfl | rfl | rfl | rfl <;> rfl
theorem encE_ow (x : REv) : rEvent.ow [] (encE x) x.1.1 :=
  ⟨[], [], [_], [_, _, _, _, _], rfl, rfl, ⟨rfl, rfl⟩, [], [], [_], [_, _, _, _], rfl, rfl, ⟨rfl, rfl⟩, [], [], [_], [_, _, _], rfl, rfl, ⟨rfl, rfl⟩, [], [], [_], [_, _], rfl, rfl, ⟨rfl, rfl⟩, [], [], [_], [_], rfl, rfl, ⟨rfl, rfl⟩, rfl, x.1.2, rfl, x.2⟩
theorem encE_of {h : Heap} {vs : List Value} {e : GEvent} (R : rEvent.rd h vs e) : ∃ x : REv, x.1.1 = e ∧ vs = encE x := by
  obtain ⟨_, _, rfl, e1, _, _, rfl, e2, _, _, rfl, e3, _, _, rfl, e4, _, _, rfl, e5, r, e6, fr⟩ := R
  cases e1; cases e2; cases e3; cases e4; cases e5; cases e6
  exact ⟨⟨(e, r), fr⟩, rfl, rfl⟩
theorem encs_of {h : Heap} : ∀ {es : List GEvent} {vs : List Value}, rds rEvent h vs es → ∃ d : List REv, d.map (fun x => x.1.1) = es ∧ vs = (d.map encE).flatten
  | [], vs, e => ⟨[], rfl, e⟩
  | x :: es, vs, e => by
    obtain ⟨v1, v2, rfl, h1, h2⟩ := e
    obtain ⟨y, e1, rfl⟩ := encE_of h1
    obtain ⟨d, e2, rfl⟩ := encs_of h2
    exact ⟨y :: d, by rw [List.map_cons, e1, e2], rfl⟩
theorem encs_ow : ∀ d : List REv, ows rEvent [] (d.map encE).flatten (d.map fun x => x.1.1)
  | [] => ⟨rfl, rfl⟩
  | x :: d => ⟨[], [], _, _, rfl, rfl, encE_ow x, encs_ow d⟩
theorem flat_get : ∀ {d : List REv} {j : Nat}, j < d.length * 6 → (d.map encE).flatten[j]? = some ((encE d.toArray[j / 6]!)[j % 6]!)
  | [], j, h => by simp at h
  | x :: d, j, h => by
    rw [List.map_cons, List.flatten_cons]
    by_cases hj : j < 6
    · rw [List.getElem?_append_left (by rw [encE_len]; exact hj), Nat.div_eq_of_lt hj, Nat.mod_eq_of_lt hj]
      show (encE x)[j]? = some ((encE x)[j]!)
      rw [getElem!_pos (encE x) j (by rw [encE_len]; exact hj), List.getElem?_eq_getElem]
    · rw [List.getElem?_append_right (by rw [encE_len]; omega), encE_len, flat_get (by simp only [List.length_cons] at h; omega)]
      rw [show j / 6 = (j - 6) / 6 + 1 by omega, show j % 6 = (j - 6) % 6 by omega]
      simp only [List.getElem!_toArray, List.getElem!_cons_succ]
theorem encs_len (d : List REv) : (d.map encE).flatten.length = d.length * 6 := by
  induction d with
  | nil => rfl
  | cons x d ih => rw [List.map_cons, List.flatten_cons, List.length_append, ih, encE_len, List.length_cons]; omega
noncomputable def cfE (es : List GEvent) (x y : REv) : Int := cmpL (keyM es x.1.1) (keyM es y.1.1)
theorem cfE_lt (es : List GEvent) (x y : REv) : Go.Proofs.ltOf (cfE es) x y = lt4 (keyM es x.1.1) (keyM es y.1.1) := by
  unfold Go.Proofs.ltOf cfE
  have := cmpL_ge (keyM es x.1.1) (keyM es y.1.1)
  cases h : lt4 (keyM es x.1.1) (keyM es y.1.1) with
  | true => rw [h] at this; simp only [Bool.not_true, decide_eq_false_iff_not] at this; rw [decide_eq_true_iff]; omega
  | false => rw [h] at this; simp only [Bool.not_false, decide_eq_true_eq] at this; rw [decide_eq_false_iff_not]; omega
theorem keyM_len (es : List GEvent) (e : GEvent) : (keyM es e).length = 4 := rfl
theorem swoE (es : List GEvent) : SWO (Go.Proofs.ltOf (cfE es)) where
  irrefl x := by rw [cfE_lt]; exact lt4_irrefl _
  trans x y z h1 h2 := by rw [cfE_lt] at *; exact lt4_trans h1 h2
  ntrans x y z h1 h2 := by
    rw [cfE_lt] at *
    rw [Bool.eq_false_iff]
    intro h
    cases e : lt4 (keyM es y.1.1) (keyM es x.1.1) with
    | true =>
      have := lt4_trans e h
      rw [this] at h2; cases h2
    | false =>
      have := lt4_total (by rw [keyM_len, keyM_len]) h1 e
      rw [← this, h] at h2; cases h2
theorem put_heap {w : World} {blk m i : Nat} {dk : Array REv} {os : Array Obj} (hi : i ≠ blk) (h : i < w.heap.size) : (Go.Proofs.sortWorldK encE 6 w blk 0 m dk os).heap[i]? = w.heap[i]? := by
  show (w.heap.modify blk _ ++ os)[i]? = _
  rw [Array.getElem?_append_left (by simp; exact h), Array.getElem?_modify, if_neg (Ne.symm hi)]
theorem cmp_lays {es : List GEvent} {g gc blk size : Nat} {w : World} (hc : cell w.heap ⟨gc, 0, none⟩ = some (.map (some g))) (MI : MapI w.heap g (ownM es)) (hg : g ≠ blk) (hgc : gc ≠ blk) :
    Go.Proofs.CmpLays prg f_impl_compareEvents_c1 #[.pointer (some ⟨gc, 0, none⟩)] encE 6 (cfE es) blk 0 size w := by
  intro m os dk hs x y
  have hc2 : cell (Go.Proofs.sortWorldK encE 6 w blk 0 m dk os).heap ⟨gc, 0, none⟩ = some (.map (some g)) := by
    rw [← hc]
    unfold cell
    rw [put_heap hgc (cell_lt hc)]
  have MI2 : MapI (Go.Proofs.sortWorldK encE 6 w blk 0 m dk os).heap g (ownM es) := by
    obtain ⟨a, c, e1, e2⟩ := MI
    exact ⟨a, c, by rw [put_heap hg (Array.getElem?_eq_some_iff.1 e1).1]; exact e1, e2⟩
  exact calls_grow Md.impl_compareEvents_c1.fn rfl rfl (@Md.compare_c1_c modeT _ es gc g ⟨encE x⟩ ⟨encE y⟩ x.1.1 y.1.1 hc2 MI2 (rEvent.look (encE_ow x) (Mem.start _) (List.Sublist.refl _)) (rEvent.look (encE_ow y) (Mem.start _) (List.Sublist.refl _)))
theorem take_put {d : List REv} {cs : Array Value} (h : d.length * 6 ≤ cs.size) : (Go.Sort.putCells id 0 (Go.Sort.flatK encE 6 d.toArray) cs).toList.take (d.length * 6) = (d.map encE).flatten := by
  have hz : (Go.Sort.flatK encE 6 d.toArray).size = d.length * 6 := by rw [Go.Sort.size_flatK]; rfl
  apply List.ext_getElem?
  intro j
  by_cases hj : j < d.length * 6
  · rw [List.getElem?_take_of_lt hj, flat_get hj, Array.getElem?_toList]
    unfold Go.Sort.putCells
    rw [Array.getElem?_mapIdx, Array.getElem?_eq_getElem (by omega)]
    simp only [Option.map_some]
    rw [if_pos (by omega)]
    have := Go.Sort.get_flatK encE 6 d.toArray j hj
    rw [Nat.sub_zero, this]; rfl
  · rw [List.getElem?_eq_none (by rw [List.length_take]; omega), List.getElem?_eq_none (by rw [encs_len]; omega)]
/-- The own row behind the sort. -/
theorem Mem.sorted {h0 : Heap} {w : World} {L : List Blk} {blk T m : Nat} {cs : Array Value} {d : List REv} {os : Array Obj} (M : Mem h0 w.heap ((blk, T, cs) :: L)) :
    Mem h0 (Go.Proofs.sortWorldK encE 6 w blk 0 m d.toArray os).heap ((blk, T, Go.Sort.putCells id 0 (Go.Sort.flatK encE 6 d.toArray) cs) :: L) := by
  have hb := M.lt (.head _)
  obtain ⟨hlo, hat⟩ := M.at_ _ (.head _)
  have hsz : w.heap.size ≤ (Go.Proofs.sortWorldK encE 6 w blk 0 m d.toArray os).heap.size := by
    show _ ≤ (w.heap.modify blk _ ++ os).size
    simp
  refine ⟨⟨Nat.le_trans M.ext.le hsz, fun i hi => ?_⟩, fun p hp => ?_, ?_⟩
  · rw [put_heap (by simp only at hlo; omega) (Nat.lt_of_lt_of_le hi M.ext.le), M.ext.eq i hi]
  · cases hp with
    | head =>
      refine ⟨hlo, ?_⟩
      show (w.heap.modify blk _ ++ os)[blk]? = _
      rw [Array.getElem?_append_left (by simp; exact hb), Array.getElem?_modify, if_pos rfl, hat]
      rfl
    | tail _ hp =>
      have hne := (List.pairwise_cons.1 M.ne).1 p hp
      obtain ⟨h1, h2⟩ := M.at_ p (.tail _ hp)
      exact ⟨h1, by rw [put_heap (Ne.symm hne) (M.lt (.tail _ hp))]; exact h2⟩
  · obtain ⟨h1, h2⟩ := List.pairwise_cons.1 M.ne
    exact List.pairwise_cons.2 ⟨h1, h2⟩
end Go.Sx
/- Voices, the program's; how many events have happened. -/
set_option linter.unusedVariables false
set_option linter.unusedSimpArgs false
namespace Go.Sx
open Go.Proofs
set_option maxRecDepth 100000
set_option maxHeartbeats 2000000

/-- How many events lie before a time. -/
def hap (es : List GEvent) (now : Int) : Nat := es.countP fun e => decide (e.At < now)
theorem EvGood.sorted {es : List GEvent} {ni : Int} (G : EvGood es ni) {i j : Nat} (h1 : i ≤ j) (h2 : j < es.length) : es[i]!.At ≤ es[j]!.At := by
  rcases Nat.lt_or_ge i j with h | h
  · have := chain (fun k => keyOf es es[k]!) G.ord h h2
    unfold keyOf keyL at this
    rw [lt4_cons] at this
    omega
  · rw [show i = j by omega]; exact Int.le_refl _
end Go.Sx
/- Players: the rule's and the program's. -/
set_option linter.unusedVariables false
set_option linter.unusedSimpArgs false
namespace Go.Sx
open Go.Proofs
set_option maxRecDepth 100000
set_option maxHeartbeats 2000000

noncomputable def voicesAt (p : GPlayer) (i : Nat) : Bool := voiceOk p.Score p.Voices[i]! && (decide (p.Voices[i]!.Note < 0) || (decide (p.Voices[i]!.Born < p.Now) && (List.range i).all fun k => !(p.Voices[k]!.Note == p.Voices[i]!.Note)))
noncomputable def GPlayer.ok (p : GPlayer) : Bool := p.Score.ok && inR p.Voices.length 1 6 && inR p.Now 0 200000 && inR p.Skipped 0 64 && (p.Next == (hap p.Score.Events p.Now : Int)) && (List.range p.Voices.length).all (voicesAt p)
end Go.Sx
/- What functions of this seat's program compute, told in words (a predicate over heaps for each), and the proofs that the words are no more than the code's own weakest precondition. -/
namespace Go.Sx
open Go.Proofs
set_option linter.unusedVariables false
set_option maxRecDepth 100000

def math_bits_Len64.J10 (Post : Value → Heap → Prop) (x_0 : Int) (n_2 : Int) (h : Heap) : Prop :=
    IDX (IntKind.u8.wrap x_0) (ByteArray.size (⟨#[0, 1, 2, 2, 3, 3, 3, 3, 4, 4, 4, 4, 4, 4, 4, 4, 5, 5, 5, 5, 5, 5, 5, 5, 5, 5, 5, 5, 5, 5, 5, 5, 6, 6, 6, 6, 6, 6, 6, 6, 6, 6, 6, 6, 6, 6, 6, 6, 6, 6, 6, 6, 6, 6, 6, 6, 6, 6, 6, 6, 6, 6, 6, 6, 7, 7, 7, 7, 7, 7, 7, 7, 7, 7, 7, 7, 7, 7, 7, 7, 7, 7, 7, 7, 7, 7, 7, 7, 7, 7, 7, 7, 7, 7, 7, 7, 7, 7, 7, 7, 7, 7, 7, 7, 7, 7, 7, 7, 7, 7, 7, 7, 7, 7, 7, 7, 7, 7, 7, 7, 7, 7, 7, 7, 7, 7, 7, 7, 8, 8, 8, 8, 8, 8, 8, 8, 8, 8, 8, 8, 8, 8, 8, 8, 8, 8, 8, 8, 8, 8, 8, 8, 8, 8, 8, 8, 8, 8, 8, 8, 8, 8, 8, 8, 8, 8, 8, 8, 8, 8, 8, 8, 8, 8, 8, 8, 8, 8, 8, 8, 8, 8, 8, 8, 8, 8, 8, 8, 8, 8, 8, 8, 8, 8, 8, 8, 8, 8, 8, 8, 8, 8, 8, 8, 8, 8, 8, 8, 8, 8, 8, 8, 8, 8, 8, 8, 8, 8, 8, 8, 8, 8, 8, 8, 8, 8, 8, 8, 8, 8, 8, 8, 8, 8, 8, 8, 8, 8, 8, 8, 8, 8, 8, 8, 8, 8, 8, 8, 8, 8, 8, 8, 8, 8, 8, 8]⟩ : ByteArray)) <|
    Post (.int .i64 ((IntKind.i64.wrap (n_2 + (IntKind.i64.wrap (byteAt (⟨#[0, 1, 2, 2, 3, 3, 3, 3, 4, 4, 4, 4, 4, 4, 4, 4, 5, 5, 5, 5, 5, 5, 5, 5, 5, 5, 5, 5, 5, 5, 5, 5, 6, 6, 6, 6, 6, 6, 6, 6, 6, 6, 6, 6, 6, 6, 6, 6, 6, 6, 6, 6, 6, 6, 6, 6, 6, 6, 6, 6, 6, 6, 6, 6, 7, 7, 7, 7, 7, 7, 7, 7, 7, 7, 7, 7, 7, 7, 7, 7, 7, 7, 7, 7, 7, 7, 7, 7, 7, 7, 7, 7, 7, 7, 7, 7, 7, 7, 7, 7, 7, 7, 7, 7, 7, 7, 7, 7, 7, 7, 7, 7, 7, 7, 7, 7, 7, 7, 7, 7, 7, 7, 7, 7, 7, 7, 7, 7, 8, 8, 8, 8, 8, 8, 8, 8, 8, 8, 8, 8, 8, 8, 8, 8, 8, 8, 8, 8, 8, 8, 8, 8, 8, 8, 8, 8, 8, 8, 8, 8, 8, 8, 8, 8, 8, 8, 8, 8, 8, 8, 8, 8, 8, 8, 8, 8, 8, 8, 8, 8, 8, 8, 8, 8, 8, 8, 8, 8, 8, 8, 8, 8, 8, 8, 8, 8, 8, 8, 8, 8, 8, 8, 8, 8, 8, 8, 8, 8, 8, 8, 8, 8, 8, 8, 8, 8, 8, 8, 8, 8, 8, 8, 8, 8, 8, 8, 8, 8, 8, 8, 8, 8, 8, 8, 8, 8, 8, 8, 8, 8, 8, 8, 8, 8, 8, 8, 8, 8, 8, 8, 8, 8, 8, 8, 8, 8]⟩ : ByteArray) (IntKind.u8.wrap x_0))))))) h
def math_bits_Len64.j10 (Post : Value → Heap → Prop) : Frame → Heap → Prop := fun fr h => GRD (shape (kds 25 [(0, .i .u64), (2, .i .i64)]) fr) (math_bits_Len64.J10 Post (gI (lget fr 0)) (gI (lget fr 2)) h)
def math_bits_Len64.J7 (Post : Value → Heap → Prop) (x_0 : Int) (n_2 : Int) (h : Heap) : Prop :=
    BIF ((decide ((256 : Int) ≤ x_0))) (
    NN (8 : Int) <|
    math_bits_Len64.J10 Post (shrI .u64 x_0 (8 : Int)) ((IntKind.i64.wrap (n_2 + (8 : Int)))) h) (
    math_bits_Len64.J10 Post x_0 n_2 h)
def math_bits_Len64.j7 (Post : Value → Heap → Prop) : Frame → Heap → Prop := fun fr h => GRD (shape (kds 25 [(0, .i .u64), (2, .i .i64)]) fr) (math_bits_Len64.J7 Post (gI (lget fr 0)) (gI (lget fr 2)) h)
def math_bits_Len64.J4 (Post : Value → Heap → Prop) (x_0 : Int) (n_2 : Int) (h : Heap) : Prop :=
    BIF ((decide ((65536 : Int) ≤ x_0))) (
    NN (16 : Int) <|
    math_bits_Len64.J7 Post (shrI .u64 x_0 (16 : Int)) ((IntKind.i64.wrap (n_2 + (16 : Int)))) h) (
    math_bits_Len64.J7 Post x_0 n_2 h)
def math_bits_Len64.j4 (Post : Value → Heap → Prop) : Frame → Heap → Prop := fun fr h => GRD (shape (kds 25 [(0, .i .u64), (2, .i .i64)]) fr) (math_bits_Len64.J4 Post (gI (lget fr 0)) (gI (lget fr 2)) h)
def math_bits_Len64.S (x_0 : Int) (Post : Value → Heap → Prop) (h : Heap) : Prop :=
    BIF ((decide ((4294967296 : Int) ≤ x_0))) (
    NN (32 : Int) <|
    math_bits_Len64.J4 Post (shrI .u64 x_0 (32 : Int)) (32 : Int) h) (
    math_bits_Len64.J4 Post x_0 (0 : Int) h)
noncomputable def math_bits_Len64.code : Code := (Tryz.f98.body).getD .skip
theorem math_bits_Len64.call {x_0 : Int} {Post : Value → Heap → Prop} {h : Heap} (H : math_bits_Len64.S x_0 Post h) : CALL prg f_math_bits_Len64 #[.int .u64 x_0] Post h :=
  fn_call tau_ok mixed (c := math_bits_Len64.code) (Λ := lookL [(4, math_bits_Len64.j4 Post), (7, math_bits_Len64.j7 Post), (10, math_bits_Len64.j10 Post)]) Tryz.func98 (by kernel_rfl) (by kernel_rfl)
    (Rq.seq (by kernel_rfl) (Rq.free (by kernel_rfl)) (Rq.seqJ (math_bits_Len64.j4 Post) (by kernel_rfl) (seg (fun _ _ => by kernel_rfl)) (Rq.free (by kernel_rfl))
(Rq.seqJ (math_bits_Len64.j7 Post) (by kernel_rfl) (seg (fun _ _ => by kernel_rfl)) (Rq.free (by kernel_rfl))
(Rq.seqJ (math_bits_Len64.j10 Post) (by kernel_rfl) (seg (fun _ _ => by kernel_rfl)) (Rq.free (by kernel_rfl))
(Rq.free (by kernel_rfl))))))
    (Eq.mp (by kernel_rfl) H)

def math_bits_Len.S (x_0 : Int) (Post : Value → Heap → Prop) (h : Heap) : Prop :=
    CALL prg f_math_bits_Len64 #[.int .u64 x_0] (fun q1 h2 =>
    asI .i64 q1 fun n3 =>
    Post (.int .i64 n3) h2) h
noncomputable def math_bits_Len.code : Code := (Tryz.f61.body).getD .skip
theorem math_bits_Len.call {x_0 : Int} {Post : Value → Heap → Prop} {h : Heap} (H : math_bits_Len.S x_0 Post h) : CALL prg f_math_bits_Len #[.int .u64 x_0] Post h :=
  fn_call tau_ok mixed (c := math_bits_Len.code) (Λ := lookL []) Tryz.func61 (by kernel_rfl) (by kernel_rfl)
    (Rq.free (by kernel_rfl))
    (Eq.mp (by kernel_rfl) H)

end Go.Sx
/- Numbers sorted, a few at most: the library's insertion sort. -/
set_option linter.unusedVariables false
set_option linter.unusedSimpArgs false
namespace Go.Sx
open Go.Proofs
set_option maxRecDepth 100000
set_option maxHeartbeats 1000000

section
variable {h0 h : Heap} {q : Addr} {F : Fr} {L : List Blk}
theorem wrap8' (n : Int) : IntKind.u8.wrap n = n % 256 := by
  simp only [IntKind.wrap, IntKind.signed, IntKind.bits, Bool.false_and, Bool.false_eq_true, if_false]
  rfl
theorem u64_wrap' {n : Int} (h1 : 0 ≤ n) (h2 : n < 18446744073709551616) : IntKind.u64.wrap n = n := by
  simp only [IntKind.wrap, IntKind.signed, Bool.false_and, Bool.false_eq_true, if_false]
  rw [show (2 : Int) ^ IntKind.u64.bits = 18446744073709551616 by decide]
  omega
theorem Len_c {l : Nat} (hl : l ≤ 12) : CALL prg f_math_bits_Len #[.int .u64 (IntKind.u64.wrap (l : Int))] (fun u h' => (∃ n, u = .int .i64 n) ∧ Ext h h') h := by
  have e : IntKind.u64.wrap (l : Int) = (l : Int) := u64_wrap' (by omega) (by omega)
  rw [e]
  refine math_bits_Len.call ?_
  have c64 : CALL prg f_math_bits_Len64 #[.int .u64 (l : Int)] (fun u h' => (∃ n, u = .int .i64 n) ∧ Ext h h') h := by
    refine math_bits_Len64.call (brd (fun k => by omega) fun _ => ?_)
    unfold math_bits_Len64.J4
    refine brd (fun k => by omega) fun _ => ?_
    unfold math_bits_Len64.J7
    refine brd (fun k => by omega) fun _ => ?_
    unfold math_bits_Len64.J10
    have e8 : IntKind.u8.wrap (l : Int) = (l : Int) := by rw [wrap8']; omega
    rw [e8]
    exact idx (by omega) (by show (l : Int) < ((256 : Nat) : Int); omega) ⟨⟨_, rfl⟩, Ext.refl _⟩
  refine c64.mono ?_
  rintro _ h1 ⟨⟨n, rfl⟩, x1⟩
  exact as_i ⟨⟨n, rfl⟩, x1⟩
end
end Go.Sx
