/- Sorting by exchanges of neighbours, plainly; two scores' notes joined. -/
import Derived.Test.YtnhcoeogejgidacGreatDoorLm13
import Derived.Test.YtnhcoeogejgidacGreatDoorTab
import Derived.Shelf.SlSortCmp.WholeK
import Derived.Ground.SlsfProg
import Derived.Shelf.SlGeneric
import Derived.Test.YtnhcoeogejgidacGreatDoorLkm
import Derived.Test.YtnhcoeogejgidacGreatDoorLk21
import Derived.Test.YtnhcoeogejgidacGreatDoorLk24
set_option linter.unusedVariables false
set_option linter.unusedSimpArgs false
namespace Go.Sx

def swpL {α : Type} [Inhabited α] (l : List α) (k : Nat) : List α := (l.set k l[k - 1]!).set (k - 1) l[k]!
section
variable {α : Type} [Inhabited α] {l : List α} {k : Nat}
theorem swp_len : (swpL l k).length = l.length := by unfold swpL; rw [List.length_set, List.length_set]
theorem swp_lo (h0 : 0 < k) (hk : k < l.length) : (swpL l k)[k - 1]! = l[k]! := by
  unfold swpL
  exact set_at _ (by rw [List.length_set]; omega)
theorem swp_hi (h0 : 0 < k) (hk : k < l.length) : (swpL l k)[k]! = l[k - 1]! := by
  unfold swpL
  rw [set_off _ (by omega), set_at _ hk]
theorem swp_off {j : Nat} (h1 : j ≠ k) (h2 : j ≠ k - 1) : (swpL l k)[j]! = l[j]! := by
  unfold swpL
  rw [set_off _ (Ne.symm h2), set_off _ (Ne.symm h1)]
theorem swp_perm (h0 : 0 < k) (hk : k < l.length) : (swpL l k).Perm l := by
  unfold swpL
  rw [getElem!_pos l k hk, getElem!_pos l (k - 1) (by omega)]
  exact List.set_set_perm hk (by omega)
theorem swp_map {β : Type} [Inhabited β] (f : α → β) (h0 : 0 < k) (hk : k < l.length) : (swpL l k).map f = swpL (l.map f) k := by
  unfold swpL
  rw [List.map_set, List.map_set]
  have e1 : f l[k - 1]! = (l.map f)[k - 1]! := by rw [getElem!_pos l _ (by omega), getElem!_pos _ _ (by rw [List.length_map]; omega), List.getElem_map]
  have e2 : f l[k]! = (l.map f)[k]! := by rw [getElem!_pos l _ hk, getElem!_pos _ _ (by rw [List.length_map]; omega), List.getElem_map]
  rw [e1, e2]
end
section
variable {ns : List GNote} {l : List GEvent} {i k : Nat}
def leN (ns : List GNote) (a b : GEvent) : Prop := lt4 (keyN ns b) (keyN ns a) = false
theorem leN_trans {a b c : GEvent} (h1 : leN ns a b) (h2 : leN ns b c) : leN ns a c := by
  unfold leN at *
  rw [Bool.eq_false_iff]
  intro h
  by_cases e : lt4 (keyN ns a) (keyN ns b) = true
  · rw [lt4_trans h e] at h2; cases h2
  · have e := lt4_total (by rw [keyN_len, keyN_len]) (Bool.eq_false_iff.2 e) h1
    rw [e, h2] at h; cases h
theorem leN_of {a b : GEvent} (h : lt4 (keyN ns a) (keyN ns b) = true) : leN ns a b := by
  unfold leN
  rw [Bool.eq_false_iff]
  intro h2
  have := lt4_trans h h2
  rw [lt4_irrefl] at this; cases this
/-- The first ones are in order. -/
structure UpTo (ns : List GNote) (i : Nat) (l : List GEvent) : Prop where
  perm : l.Perm (evsOf ns)
  ord : ∀ a b, a < b → b < i → leN ns l[a]! l[b]!
/-- One of the first i + 1 sinks to its place: it stands at k. -/
structure Sink (ns : List GNote) (i k : Nat) (l : List GEvent) : Prop where
  perm : l.Perm (evsOf ns)
  hk : k ≤ i
  hi : i < l.length
  ord : ∀ a b, a < b → b ≤ i → a ≠ k → b ≠ k → leN ns l[a]! l[b]!
  up : ∀ b, k < b → b ≤ i → leN ns l[k]! l[b]!
theorem UpTo.sink (U : UpTo ns i l) (hi : i < l.length) : Sink ns i i l :=
  ⟨U.perm, Nat.le_refl _, hi, fun a b h1 h2 _ h4 => U.ord a b h1 (by omega), fun b h1 h2 => by omega⟩
theorem Sink.swap (S : Sink ns i k l) (h0 : 0 < k) (h : lt4 (keyN ns l[k]!) (keyN ns l[k - 1]!) = true) : Sink ns i (k - 1) (swpL l k) := by
  have hkl : k < l.length := by have := S.hk; have := S.hi; omega
  have hki := S.hk
  refine ⟨(swp_perm h0 hkl).trans S.perm, by omega, by rw [swp_len]; exact S.hi, fun a b h1 h2 h3 h4 => ?_, fun b h1 h2 => ?_⟩
  · by_cases ea : a = k
    · subst ea
      rw [swp_hi h0 hkl, swp_off (by omega) (by omega)]
      exact S.ord (a - 1) b (by omega) h2 (by omega) (by omega)
    · by_cases eb : b = k
      · subst eb
        rw [swp_hi h0 hkl, swp_off (by omega) (by omega)]
        exact S.ord a (b - 1) (by omega) (by omega) ea (by omega)
      · rw [swp_off ea h3, swp_off eb h4]
        exact S.ord a b h1 h2 ea eb
  · rw [swp_lo h0 hkl]
    by_cases eb : b = k
    · subst eb
      rw [swp_hi h0 hkl]
      exact leN_of h
    · rw [swp_off eb (by omega)]
      exact S.up b (by omega) h2
theorem Sink.done (S : Sink ns i k l) (h : k = 0 ∨ lt4 (keyN ns l[k]!) (keyN ns l[k - 1]!) = false) : UpTo ns (i + 1) l := by
  refine ⟨S.perm, fun a b h1 h2 => ?_⟩
  by_cases ea : a = k
  · subst ea; exact S.up b h1 (by omega)
  · by_cases eb : b = k
    · subst eb
      rcases h with h | h
      · omega
      · by_cases e : a = b - 1
        · subst e; exact h
        · exact leN_trans (S.ord a (b - 1) (by omega) (by omega) ea (by omega)) h
    · exact S.ord a b h1 (by omega) ea eb
theorem UpTo.sorted (U : UpTo ns i l) (hi : l.length ≤ i) : Sorted ns l := by
  refine ⟨U.perm, List.pairwise_iff_getElem.2 fun a b ha hb hab => ?_⟩
  have := U.ord a b hab (by omega)
  rw [getElem!_pos l a ha, getElem!_pos l b hb] at this
  exact this
theorem UpTo.start (hp : l.Perm (evsOf ns)) : UpTo ns 1 l := ⟨hp, fun a b h1 h2 => by omega⟩
/-- Sorted by the program's keys. -/
theorem sorted_keyM {m : List GEvent} (P : l.Perm (evsOf ns)) (Q : m.Perm l) (h : ∀ a b, a < b → b < m.length → lt4 (keyM l m[b]!) (keyM l m[a]!) = false) : Sorted ns m := by
  refine ⟨Q.trans P, List.pairwise_iff_getElem.2 fun a b ha hb hab => ?_⟩
  have := h a b hab hb
  have ma : m[a] ∈ l := Q.mem_iff.1 (List.getElem_mem ha)
  have mb : m[b] ∈ l := Q.mem_iff.1 (List.getElem_mem hb)
  rw [getElem!_pos m a ha, getElem!_pos m b hb, keyM_perm P mb, keyM_perm P ma] at this
  exact this
/-- Two lists of good events, the second one shifted, are the events of the notes of both. -/
theorem join_perm {es fs : List GEvent} {ni nj : Int} {ms : List GNote} {d : Int} (G : EvGood es ni) (G' : EvGood fs nj) (I : NInv es es.length ns) (J : NInv fs fs.length ms) :
    (es ++ fs.map (shE d ns.length)).Perm (evsOf (ns ++ ms.map (shN d))) := by
  rw [evsOf_append ns d ms.length ms rfl]
  exact (I.perm G).append ((J.perm G').map _)
end
end Go.Sx
/- Contracts of the kit's shelf, laid at the seat's program. -/
namespace Go.Proofs
open Go.Shelf
def Tryz.laysS_ren : Go.Shelf.Ren := ⟨fun | 6 => 47 | 15 => 109 | 14 => 108 | 28 => 176 | 29 => 177 | 20 => 168 | 21 => 169 | 22 => 170 | 23 => 171 | 24 => 172 | 25 => 173 | 26 => 174 | 27 => 175 | 46 => 239 | 47 => 240 | 48 => 241 | 49 => 242 | 50 => 243 | 57 => 289 | n => n, fun | 22 => 33 | 24 => 74 | 25 => 104 | 3 => 3 | 39 => 170 | 0 => 0 | 53 => 150 | 55 => 180 | 4 => 4 | 46 => 222 | 45 => 221 | 50 => 226 | 5 => 5 | 9 => 9 | 66 => 282 | 70 => 286 | 76 => 318 | 77 => 319 | n => n, fun | n => n⟩
theorem Tryz.laysS : Go.Proofs.SlLaysF0.n6 Tryz.prog Tryz.laysS_ren := {
  mixed := by kernel_rfl
  f6 := ⟨Tryz.f47.name, by decide, Tryz.func47.trans (congrArg some (by kernel_rfl))⟩
  f14 := ⟨Tryz.f108.name, by decide, Tryz.func108.trans (congrArg some (by kernel_rfl))⟩
  f15 := Tryz.func109.trans (congrArg some (by kernel_rfl))
  f20 := ⟨Tryz.f168.name, by decide, Tryz.func168.trans (congrArg some (by kernel_rfl))⟩
  f21 := ⟨Tryz.f169.name, by decide, Tryz.func169.trans (congrArg some (by kernel_rfl))⟩
  f22 := ⟨Tryz.f170.name, by decide, Tryz.func170.trans (congrArg some (by kernel_rfl))⟩
  f23 := ⟨Tryz.f171.name, by decide, Tryz.func171.trans (congrArg some (by kernel_rfl))⟩
  f24 := ⟨Tryz.f172.name, by decide, Tryz.func172.trans (congrArg some (by kernel_rfl))⟩
  f25 := ⟨Tryz.f173.name, by decide, Tryz.func173.trans (congrArg some (by kernel_rfl))⟩
  f26 := ⟨Tryz.f174.name, by decide, Tryz.func174.trans (congrArg some (by kernel_rfl))⟩
  f27 := ⟨Tryz.f175.name, by decide, Tryz.func175.trans (congrArg some (by kernel_rfl))⟩
  f28 := Tryz.func176.trans (congrArg some (by kernel_rfl))
  f29 := Tryz.func177.trans (congrArg some (by kernel_rfl))
  f46 := ⟨Tryz.f239.name, by decide, Tryz.func239.trans (congrArg some (by kernel_rfl))⟩
  f47 := Tryz.func240.trans (congrArg some (by kernel_rfl))
  f48 := Tryz.func241.trans (congrArg some (by kernel_rfl))
  f49 := ⟨Tryz.f242.name, by decide, Tryz.func242.trans (congrArg some (by kernel_rfl))⟩
  f50 := ⟨Tryz.f243.name, by decide, Tryz.func243.trans (congrArg some (by kernel_rfl))⟩
  f57 := ⟨Tryz.f289.name, by decide, Tryz.func289.trans (congrArg some (by kernel_rfl))⟩
  t0 := Tryz.underlying0
  a0 := Tryz.isAgg0
  z0 := Tryz.sizeOf0
  v0 := Tryz.zeroValue0
  t3 := Tryz.underlying3
  a3 := Tryz.isAgg3
  z3 := Tryz.sizeOf3
  v3 := Tryz.zeroValue3
  t4 := Tryz.underlying4
  a4 := Tryz.isAgg4
  z4 := Tryz.sizeOf4
  v4 := Tryz.zeroValue4
  t5 := Tryz.underlying5
  a5 := Tryz.isAgg5
  z5 := Tryz.sizeOf5
  v5 := Tryz.zeroValue5
  t9 := Tryz.underlying9
  a9 := Tryz.isAgg9
  z9 := Tryz.sizeOf9
  v9 := Tryz.zeroValue9
  t22 := Tryz.underlying33
  a22 := Tryz.isAgg33
  z22 := Tryz.sizeOf33
  v22 := Tryz.zeroValue33
  t25 := Tryz.underlying104
  a25 := Tryz.isAgg104
  z25 := Tryz.sizeOf104
  v25 := Tryz.zeroValue104
  t39 := Tryz.underlying170
  a39 := Tryz.isAgg170
  z39 := Tryz.sizeOf170
  v39 := Tryz.zeroValue170
  t45 := Tryz.underlying221
  a45 := Tryz.isAgg221
  z45 := Tryz.sizeOf221
  v45 := Tryz.zeroValue221
  t46 := Tryz.underlying222
  a46 := Tryz.isAgg222
  z46 := Tryz.sizeOf222
  v46 := Tryz.zeroValue222
  t50 := Tryz.underlying226
  a50 := Tryz.isAgg226
  z50 := Tryz.sizeOf226
  v50 := Tryz.zeroValue226
  t53 := Tryz.underlying150
  a53 := Tryz.isAgg150
  z53 := Tryz.sizeOf150
  v53 := Tryz.zeroValue150
  t55 := Tryz.underlying180
  a55 := Tryz.isAgg180
  z55 := Tryz.sizeOf180
  v55 := Tryz.zeroValue180
  t66 := Tryz.underlying282
  a66 := Tryz.isAgg282
  z66 := Tryz.sizeOf282
  v66 := Tryz.zeroValue282
  t70 := Tryz.underlying286
  a70 := Tryz.isAgg286
  z70 := Tryz.sizeOf286
  v70 := Tryz.zeroValue286
  t76 := Tryz.underlying318
  a76 := Tryz.isAgg318
  z76 := Tryz.sizeOf318
  v76 := Tryz.zeroValue318
  t77 := Tryz.underlying319
  a77 := Tryz.isAgg319
  z77 := Tryz.sizeOf319
  v77 := Tryz.zeroValue319 }
end Go.Proofs
namespace Go.Sx
open Go.Proofs
abbrev RS : Go.Shelf.Ren := Go.Proofs.Tryz.laysS_ren
theorem LS : Go.Proofs.SlLaysF0.n6 prg RS := Go.Proofs.Tryz.laysS
end Go.Sx
namespace Go.Sx
open Go.Proofs
theorem aES : ∀ w, (isAgg (RS.t 24)).run prg w = .ok true w := Tryz.isAgg74
theorem zES : ∀ w, (Go.sizeOf (RS.t 24)).run prg w = .ok 6 w := Tryz.sizeOf74
end Go.Sx
/- Events sorted by the library's sort: the shelf's contract. -/
set_option linter.unusedVariables false
set_option linter.unusedSimpArgs false
namespace Go.Sx
open Go.Proofs Go.Sort Go.RowKit
set_option maxRecDepth 100000
set_option maxHeartbeats 1000000

@[reducible] def modeT : Mode := ⟨true⟩
theorem grow_of {w w' : World} (s : @Same modeT w w') (x : Ext w.heap w'.heap) : w' = Sort.grow (w.drewN (w'.drawn - w.drawn)) (w'.heap.extract w.heap.size w'.heap.size) := by
  have hd := @Same.drawn modeT _ _ s rfl
  have e1 := @Same.os modeT _ _ s
  have e2 := @Same.tape modeT _ _ s
  have e3 := @Same.output modeT _ _ s
  have hh : w'.heap = w.heap ++ w'.heap.extract w.heap.size w'.heap.size := by
    apply Array.ext_getElem?
    intro i
    by_cases hi : i < w.heap.size
    · rw [Array.getElem?_append_left hi, x.eq i hi]
    · rw [Array.getElem?_append_right (by omega), Array.getElem?_extract]
      by_cases h2 : i < w'.heap.size
      · rw [if_pos (by omega)]
        congr 1; omega
      · rw [if_neg (by omega), Array.getElem?_eq_none (by omega)]
  cases w with | mk h t d o u => cases w' with | mk h' t' d' o' u' =>
  simp only at *
  subst e1 e2 e3
  show World.mk _ _ _ _ _ = World.mk (h ++ _) t' (d + (d' - d)) o' u'
  rw [show d + (d' - d) = d' by omega, ← hh]
/-- A call that tells its draws, at a world. -/
theorem calls_grow {P : Program} {f : FuncId} {fn : Func} {args : Array Value} {v : Value} {W : World} (hf : P.funcs[f]? = some fn) (hb : fn.body.isNone = false) (hn : (fn.name == "runtime.NumGoroutine") = false)
    (H : @CALL modeT P f args (fun u h' => u = v ∧ Ext W.heap h') W.heap) : Calls P f args W fun e w' => e = .returned v ∧ ∃ q os', w' = Sort.grow (W.drewN q) os' := by
  have h := H W rfl
  have hrun : (callFunc f args).run P W = .ok (.enter f args) W := by
    unfold callFunc
    simp only [Sem.run_bind, run_program, Result.andThen_ok, hf, hn, hb, Bool.false_eq_true, if_false]
    rfl
  rw [hrun] at h
  refine Calls.mono h ?_
  rintro e w' ⟨u, rfl, s, rfl, x⟩
  exact ⟨rfl, _, _, grow_of s x⟩
/-- An event and the word of its force. -/
def REv := { p : GEvent × Nat // FW .f32 p.2 p.1.Force }
instance : Inhabited REv := ⟨⟨(z_Event, 0), fw_c32 (by decide) (by decide)⟩⟩
def evV (e : GEvent) (r : Nat) : List Value := [.int .i64 e.At, .int .i64 e.Kind, .int .i64 e.Note, .int .i64 e.Instrument, .int .i64 e.Key, .float .f32 r]
def encE (x : REv) : List Value := evV x.1.1 x.1.2
theorem encE_len (x : REv) : (encE x).length = 6 := rfl
theorem encE_one (x : REv) : ∀ v ∈ encE x, v.oneCell' = true := fun v hv => by
  simp only [encE, evV, List.mem_cons, List.not_mem_nil, or_false] at hv
  rcases hv with rfl | rfl | rfl | rfl | rfl | rfl <;> rfl
theorem encE_ow (x : REv) : rEvent.ow [] (encE x) x.1.1 :=
  ⟨[], [], [_], [_, _, _, _, _], rfl, rfl, ⟨rfl, rfl⟩, [], [], [_], [_, _, _, _], rfl, rfl, ⟨rfl, rfl⟩, [], [], [_], [_, _, _], rfl, rfl, ⟨rfl, rfl⟩, [], [], [_], [_, _], rfl, rfl, ⟨rfl, rfl⟩, [], [], [_], [_], rfl, rfl, ⟨rfl, rfl⟩, rfl, x.1.2, rfl, x.2⟩
theorem encE_of {h : Heap} {vs : List Value} {e : GEvent} (R : rEvent.rd h vs e) : ∃ x : REv, x.1.1 = e ∧ vs = encE x := by
  obtain ⟨_, _, rfl, e1, _, _, rfl, e2, _, _, rfl, e3, _, _, rfl, e4, _, _, rfl, e5, r, e6, fr⟩ := R
  cases e1; cases e2; cases e3; cases e4; cases e5; cases e6
  exact ⟨⟨(e, r), fr⟩, rfl, rfl⟩
theorem encs_of {h : Heap} : ∀ {es : List GEvent} {vs : List Value}, rds rEvent h vs es → ∃ d : List REv, d.map (fun x => x.1.1) = es ∧ vs = (d.map encE).flatten
  | [], vs, e => ⟨[], rfl, e⟩
  | x :: es, vs, e => by
    obtain ⟨v1, v2, rfl, h1, h2⟩ := e
    obtain ⟨y, e1, rfl⟩ := encE_of h1
    obtain ⟨d, e2, rfl⟩ := encs_of h2
    exact ⟨y :: d, by rw [List.map_cons, e1, e2], rfl⟩
theorem encs_ow : ∀ d : List REv, ows rEvent [] (d.map encE).flatten (d.map fun x => x.1.1)
  | [] => ⟨rfl, rfl⟩
  | x :: d => ⟨[], [], _, _, rfl, rfl, encE_ow x, encs_ow d⟩
theorem flat_get : ∀ {d : List REv} {j : Nat}, j < d.length * 6 → (d.map encE).flatten[j]? = some ((encE d.toArray[j / 6]!)[j % 6]!)
  | [], j, h => by simp at h
  | x :: d, j, h => by
    rw [List.map_cons, List.flatten_cons]
    by_cases hj : j < 6
    · rw [List.getElem?_append_left (by rw [encE_len]; exact hj), Nat.div_eq_of_lt hj, Nat.mod_eq_of_lt hj]
      show (encE x)[j]? = some ((encE x)[j]!)
      rw [getElem!_pos (encE x) j (by rw [encE_len]; exact hj), List.getElem?_eq_getElem]
    · rw [List.getElem?_append_right (by rw [encE_len]; omega), encE_len, flat_get (by simp only [List.length_cons] at h; omega)]
      rw [show j / 6 = (j - 6) / 6 + 1 by omega, show j % 6 = (j - 6) % 6 by omega]
      simp only [List.getElem!_toArray, List.getElem!_cons_succ]
theorem encs_len (d : List REv) : (d.map encE).flatten.length = d.length * 6 := by
  induction d with
  | nil => rfl
  | cons x d ih => rw [List.map_cons, List.flatten_cons, List.length_append, ih, encE_len, List.length_cons]; omega
noncomputable def cfE (es : List GEvent) (x y : REv) : Int := cmpL (keyM es x.1.1) (keyM es y.1.1)
theorem cfE_lt (es : List GEvent) (x y : REv) : Go.Proofs.ltOf (cfE es) x y = lt4 (keyM es x.1.1) (keyM es y.1.1) := by
  unfold Go.Proofs.ltOf cfE
  have := cmpL_ge (keyM es x.1.1) (keyM es y.1.1)
  cases h : lt4 (keyM es x.1.1) (keyM es y.1.1) with
  | true => rw [h] at this; simp only [Bool.not_true, decide_eq_false_iff_not] at this; rw [decide_eq_true_iff]; omega
  | false => rw [h] at this; simp only [Bool.not_false, decide_eq_true_eq] at this; rw [decide_eq_false_iff_not]; omega
theorem keyM_len (es : List GEvent) (e : GEvent) : (keyM es e).length = 4 := rfl
theorem swoE (es : List GEvent) : SWO (Go.Proofs.ltOf (cfE es)) where
  irrefl x := by rw [cfE_lt]; exact lt4_irrefl _
  trans x y z h1 h2 := by rw [cfE_lt] at *; exact lt4_trans h1 h2
  ntrans x y z h1 h2 := by
    rw [cfE_lt] at *
    rw [Bool.eq_false_iff]
    intro h
    cases e : lt4 (keyM es y.1.1) (keyM es x.1.1) with
    | true =>
      have := lt4_trans e h
      rw [this] at h2; cases h2
    | false =>
      have := lt4_total (by rw [keyM_len, keyM_len]) h1 e
      rw [← this, h] at h2; cases h2
theorem put_heap {w : World} {blk m i : Nat} {dk : Array REv} {os : Array Obj} (hi : i ≠ blk) (h : i < w.heap.size) : (Go.Proofs.sortWorldK encE 6 w blk 0 m dk os).heap[i]? = w.heap[i]? := by
  show (w.heap.modify blk _ ++ os)[i]? = _
  rw [Array.getElem?_append_left (by simp; exact h), Array.getElem?_modify, if_neg (Ne.symm hi)]
theorem cmp_lays {es : List GEvent} {g gc blk size : Nat} {w : World} (hc : cell w.heap ⟨gc, 0, none⟩ = some (.map (some g))) (MI : MapI w.heap g (ownM es)) (hg : g ≠ blk) (hgc : gc ≠ blk) :
    Go.Proofs.CmpLays prg f_impl_compareEvents_c1 #[.pointer (some ⟨gc, 0, none⟩)] encE 6 (cfE es) blk 0 size w := by
  intro m os dk hs x y
  have hc2 : cell (Go.Proofs.sortWorldK encE 6 w blk 0 m dk os).heap ⟨gc, 0, none⟩ = some (.map (some g)) := by
    rw [← hc]
    unfold cell
    rw [put_heap hgc (cell_lt hc)]
  have MI2 : MapI (Go.Proofs.sortWorldK encE 6 w blk 0 m dk os).heap g (ownM es) := by
    obtain ⟨a, c, e1, e2⟩ := MI
    exact ⟨a, c, by rw [put_heap hg (Array.getElem?_eq_some_iff.1 e1).1]; exact e1, e2⟩
  exact calls_grow Md.impl_compareEvents_c1.fn rfl rfl (@Md.compare_c1_c modeT _ es gc g ⟨encE x⟩ ⟨encE y⟩ x.1.1 y.1.1 hc2 MI2 (rEvent.look (encE_ow x) (Mem.start _) (List.Sublist.refl _)) (rEvent.look (encE_ow y) (Mem.start _) (List.Sublist.refl _)))
theorem take_put {d : List REv} {cs : Array Value} (h : d.length * 6 ≤ cs.size) : (Go.Sort.putCells id 0 (Go.Sort.flatK encE 6 d.toArray) cs).toList.take (d.length * 6) = (d.map encE).flatten := by
  have hz : (Go.Sort.flatK encE 6 d.toArray).size = d.length * 6 := by rw [Go.Sort.size_flatK]; rfl
  apply List.ext_getElem?
  intro j
  by_cases hj : j < d.length * 6
  · rw [List.getElem?_take_of_lt hj, flat_get hj, Array.getElem?_toList]
    unfold Go.Sort.putCells
    rw [Array.getElem?_mapIdx, Array.getElem?_eq_getElem (by omega)]
    simp only [Option.map_some]
    rw [if_pos (by omega)]
    have := Go.Sort.get_flatK encE 6 d.toArray j hj
    rw [Nat.sub_zero, this]; rfl
  · rw [List.getElem?_eq_none (by rw [List.length_take]; omega), List.getElem?_eq_none (by rw [encs_len]; omega)]
/-- The own row behind the sort. -/
theorem Mem.sorted {h0 : Heap} {w : World} {L : List Blk} {blk T m : Nat} {cs : Array Value} {d : List REv} {os : Array Obj} (M : Mem h0 w.heap ((blk, T, cs) :: L)) :
    Mem h0 (Go.Proofs.sortWorldK encE 6 w blk 0 m d.toArray os).heap ((blk, T, Go.Sort.putCells id 0 (Go.Sort.flatK encE 6 d.toArray) cs) :: L) := by
  have hb := M.lt (.head _)
  obtain ⟨hlo, hat⟩ := M.at_ _ (.head _)
  have hsz : w.heap.size ≤ (Go.Proofs.sortWorldK encE 6 w blk 0 m d.toArray os).heap.size := by
    show _ ≤ (w.heap.modify blk _ ++ os).size
    simp
  refine ⟨⟨Nat.le_trans M.ext.le hsz, fun i hi => ?_⟩, fun p hp => ?_, ?_⟩
  · rw [put_heap (by simp only at hlo; omega) (Nat.lt_of_lt_of_le hi M.ext.le), M.ext.eq i hi]
  · cases hp with
    | head =>
      refine ⟨hlo, ?_⟩
      show (w.heap.modify blk _ ++ os)[blk]? = _
      rw [Array.getElem?_append_left (by simp; exact hb), Array.getElem?_modify, if_pos rfl, hat]
      rfl
    | tail _ hp =>
      have hne := (List.pairwise_cons.1 M.ne).1 p hp
      obtain ⟨h1, h2⟩ := M.at_ p (.tail _ hp)
      exact ⟨h1, by rw [put_heap (Ne.symm hne) (M.lt (.tail _ hp))]; exact h2⟩
  · obtain ⟨h1, h2⟩ := List.pairwise_cons.1 M.ne
    exact List.pairwise_cons.2 ⟨h1, h2⟩
end Go.Sx
/- Voices, the program's; how many events have happened. -/
set_option linter.unusedVariables false
set_option linter.unusedSimpArgs false
namespace Go.Sx
open Go.Proofs
set_option maxRecDepth 100000
set_option maxHeartbeats 2000000

/-- How many events lie before a time. -/
def hap (es : List GEvent) (now : Int) : Nat := es.countP fun e => decide (e.At < now)
theorem EvGood.sorted {es : List GEvent} {ni : Int} (G : EvGood es ni) {i j : Nat} (h1 : i ≤ j) (h2 : j < es.length) : es[i]!.At ≤ es[j]!.At := by
  rcases Nat.lt_or_ge i j with h | h
  · have := chain (fun k => keyOf es es[k]!) G.ord h h2
    unfold keyOf keyL at this
    rw [lt4_cons] at this
    omega
  · rw [show i = j by omega]; exact Int.le_refl _
end Go.Sx
/- Players: the rule's and the program's. -/
set_option linter.unusedVariables false
set_option linter.unusedSimpArgs false
namespace Go.Sx
open Go.Proofs
set_option maxRecDepth 100000
set_option maxHeartbeats 2000000

noncomputable def voicesAt (p : GPlayer) (i : Nat) : Bool := voiceOk p.Score p.Voices[i]! && (decide (p.Voices[i]!.Note < 0) || (decide (p.Voices[i]!.Born < p.Now) && (List.range i).all fun k => !(p.Voices[k]!.Note == p.Voices[i]!.Note)))
noncomputable def GPlayer.ok (p : GPlayer) : Bool := p.Score.ok && inR p.Voices.length 1 6 && inR p.Now 0 200000 && inR p.Skipped 0 64 && (p.Next == (hap p.Score.Events p.Now : Int)) && (List.range p.Voices.length).all (voicesAt p)
end Go.Sx
