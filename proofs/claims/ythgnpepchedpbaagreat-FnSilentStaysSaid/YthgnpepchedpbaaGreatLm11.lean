/- Silence stays: bows that are not drawn, jets that are not blown, rooms to which nothing comes. -/
import Derived.Test.YthgnpepchedpbaaGreatLdr
import Derived.Test.YthgnpepchedpbaaGreatLk57
import Derived.Test.YthgnpepchedpbaaGreatLm7
import Derived.Test.YthgnpepchedpbaaGreatLk72
set_option linter.unusedVariables false
set_option linter.unusedSimpArgs false
namespace Go.Sx
open Go.Proofs Ieee
set_option maxRecDepth 100000
set_option maxHeartbeats 1000000

def Z2 (a : Nat) : Prop := a = 0 ∨ a = 2147483648
theorem read_of_fin {c : Nat} (h : fin c = true) : ∃ s m e, FloatKind.f32.format.read c = .number s m e := by
  have bad : (feq .f32 (cn .f32 (qn .f32)) 0 = true) → False := fun h => by
    have : feq .f32 (cn .f32 (qn .f32)) 0 = false := by decide +kernel
    rw [this] at h; cases h
  cases hr : FloatKind.f32.format.read c with
  | number s m e => exact ⟨s, m, e, rfl⟩
  | infinity s =>
    exfalso
    unfold fin fsub Format.sub at h
    rw [hr] at h
    cases s <;> exact bad h
  | nan s t =>
    exfalso
    unfold fin fsub Format.sub at h
    rw [hr] at h
    exact bad h
theorem zw (s : Bool) : Z2 (cn .f32 (FloatKind.f32.format.word s 0)) := by
  cases s
  · left; decide +kernel
  · right; decide +kernel
theorem rd_n0 : FloatKind.f32.format.read 2147483648 = .number true 0 (-149) := by decide +kernel
theorem zmul {c z : Nat} (hc : fin c = true) (hz : Z2 z) : Z2 (fmul .f32 c z) := by
  obtain ⟨s, m, e, hr⟩ := read_of_fin hc
  have key : ∀ t : Bool, FloatKind.f32.format.read z = .number t 0 (-149) → Z2 (fmul .f32 c z) := fun t ht => by
    unfold fmul
    rw [mul_row (f := FloatKind.f32.format) (by rw [hr, ht, prod_number]), Option.getD_some, Nat.mul_zero]
    show Z2 (cn .f32 (FloatKind.f32.format.nearest (s ^^ t) 0 (e + -149)))
    rw [nearest_zero]
    exact zw _
  rcases hz with rfl | rfl
  · exact key false rd_c0
  · exact key true rd_n0
theorem zadd {a b : Nat} (ha : Z2 a) (hb : Z2 b) : Z2 (fadd .f32 a b) := by
  rcases ha with rfl | rfl <;> rcases hb with rfl | rfl <;> first | (left; decide +kernel) | (right; decide +kernel)
theorem zsub {a b : Nat} (ha : Z2 a) (hb : Z2 b) : Z2 (fsub .f32 a b) := by
  rcases ha with rfl | rfl <;> rcases hb with rfl | rfl <;> first | (left; decide +kernel) | (right; decide +kernel)
theorem zneg {a : Nat} (ha : Z2 a) : Z2 (fneg .f32 a) := by
  rcases ha with rfl | rfl <;> first | (left; decide +kernel) | (right; decide +kernel)
theorem zkept {a : Nat} (ha : Z2 a) : kept a = 0 := by rcases ha with rfl | rfl <;> decide +kernel
theorem zone {a : Nat} (ha : Z2 a) : Z2 (fmul .f32 a 1065353216) := by
  rcases ha with rfl | rfl <;> first | (left; decide +kernel) | (right; decide +kernel)
theorem zfric {s d : Nat} (hs : fin s = true) (hd : Z2 d) : friction s d = 1065353216 := by
  have h := zmul hs hd
  unfold friction
  dsimp only
  rcases h with h | h <;> rw [h] <;> decide +kernel
theorem zeq {a : Nat} (ha : Z2 a) : feq .f32 a 0 = true := by rcases ha with rfl | rfl <;> decide +kernel
theorem z0 : Z2 0 := .inl rfl
def GRing.nil (r : GRing) : Prop := ∀ a ∈ r.Samples, a = 0
theorem nil_get {r : GRing} (h : r.nil) (i : Nat) : r.Samples[i]! = 0 := by
  by_cases hi : i < r.Samples.length
  · exact h _ (mem_get hi)
  · rw [List.getElem!_eq_getElem?_getD, List.getElem?_eq_none (by omega)]; rfl
theorem nil_mute (r : GRing) : r.mute.nil := fun a ha => (List.mem_replicate.1 ha).2
theorem nil_push {r : GRing} (h : r.nil) : (r.push 0).nil := fun a ha => by
  rcases List.mem_or_eq_of_mem_set ha with ha | ha
  · exact h a ha
  · exact ha
theorem nil_zero {r : GRing} (h : r.nil) : r.zero = true := by
  unfold GRing.zero
  rw [List.all_eq_true]
  intro a ha
  rw [h a ha]
  exact zeq z0
/-- A filter of finite numbers at rest. -/
structure Rest (k : Int) (f : GFilter) : Prop where
  k : f.Kind = k
  c : ∀ i : Nat, fin f.C[i]! = true
  s : f.S = [0, 0]
theorem fin0 : fin 0 = true := by decide +kernel
theorem used_fin {l : List Nat} {n : Int} (h : used l n = true) (i : Nat) : fin l[i]! = true := by
  by_cases hi : i < l.length
  · unfold used at h
    have := List.all_eq_true.1 h i (List.mem_range.2 hi)
    rw [Bool.and_eq_true] at this
    exact this.1
  · rw [List.getElem!_eq_getElem?_getD, List.getElem?_eq_none (by omega)]; exact fin0
theorem rest_mute {k : Int} {f : GFilter} (h : (f.ok && f.Kind == k) = true) : Rest k f.mute := by
  rw [Bool.and_eq_true, beq_iff_eq] at h
  have h1 := h.1
  unfold GFilter.ok at h1
  simp only [Bool.and_eq_true] at h1
  exact ⟨h.2, used_fin h1.1.2, rfl⟩
theorem rest_still {k : Int} {f : GFilter} (h : Rest k f) : f.still = true := by
  unfold GFilter.still
  rw [h.s]
  show (feq .f32 0 0 && feq .f32 0 0) = true
  rw [zeq z0]; rfl
theorem rest_step1 {f : GFilter} {a : Nat} (h : Rest 1 f) (ha : Z2 a) : Rest 1 (f.step a).1 ∧ Z2 (f.step a).2 := by
  obtain ⟨hk, hc, hs⟩ := h
  rw [step1 hk]
  have hy : Z2 (fadd .f32 (fmul .f32 f.C[0]! a) (fmul .f32 f.C[1]! f.S[0]!)) := by
    rw [hs]
    exact zadd (zmul (hc 0) ha) (zmul (hc 1) z0)
  refine ⟨⟨hk, hc, ?_⟩, hy⟩
  show f.S.set 0 (kept _) = _
  rw [zkept hy, hs]; rfl
theorem rest_step5 {f : GFilter} {a : Nat} (h : Rest 5 f) (ha : Z2 a) : Rest 5 (f.step a).1 ∧ Z2 (f.step a).2 := by
  obtain ⟨hk, hc, hs⟩ := h
  have e : f.step a = ({ f with S := (f.S.set 0 (kept a)).set 1 (kept (fadd .f32 (fsub .f32 a f.S[0]!) (fmul .f32 f.C[0]! f.S[1]!))) }, fadd .f32 (fsub .f32 a f.S[0]!) (fmul .f32 f.C[0]! f.S[1]!)) := by
    unfold GFilter.step
    rw [if_neg (by rw [hk]; decide), if_neg (by rw [hk]; decide), if_neg (by rw [hk]; decide), if_neg (by rw [hk]; decide)]
  rw [e]
  have hy : Z2 (fadd .f32 (fsub .f32 a f.S[0]!) (fmul .f32 f.C[0]! f.S[1]!)) := by
    rw [hs]
    exact zadd (zsub ha z0) (zmul (hc 0) z0)
  refine ⟨⟨hk, hc, ?_⟩, hy⟩
  show (f.S.set 0 (kept a)).set 1 (kept _) = _
  rw [zkept hy, zkept ha, hs]; rfl
def GBow.mute (x : GBow) : GBow := { x with Neck := x.Neck.mute, Bridge := x.Bridge.mute, Damp := x.Damp.mute }
structure GBow.Nil (x : GBow) : Prop where
  n : x.Neck.nil
  b : x.Bridge.nil
  d : Rest 1 x.Damp
  s : fin x.Slope = true
  l : fin x.Loss = true
theorem mute_okf {r : GRing} (h : r.okf = true) : r.mute.okf = true := by
  unfold GRing.okf at *
  rw [Bool.and_eq_true] at *
  refine ⟨?_, zeros_fin _⟩
  have h1 := h.1
  unfold GRing.ok GRing.len GRing.mute at *
  rw [List.length_replicate]
  exact h1
theorem mute_ok1 {k : Int} {f : GFilter} (h : (f.ok && f.Kind == k) = true) : (f.mute.ok && f.mute.Kind == k) = true := by
  rw [Bool.and_eq_true, beq_iff_eq] at *
  refine ⟨?_, h.2⟩
  have h1 := h.1
  unfold GFilter.ok GFilter.mute at *
  simp only [Bool.and_eq_true] at *
  refine ⟨h1.1, ?_⟩
  unfold used
  rw [List.all_eq_true]
  intro i hi
  rw [List.mem_range] at hi
  have : i < 2 := hi
  rcases (show i = 0 ∨ i = 1 by omega) with rfl | rfl
  · show (fin 0 && _) = true; rw [fin0]; simp
  · show (fin 0 && _) = true; rw [fin0]; simp
theorem bow_mute_ok {x : GBow} (h : x.ok = true) : x.mute.ok = true ∧ x.mute.Nil := by
  unfold GBow.ok at *
  simp only [Bool.and_eq_true] at h
  obtain ⟨⟨⟨h1, h2⟩, h3⟩, h4, h5⟩ := h
  have h3' : (x.Damp.ok && x.Damp.Kind == 1) = true := by rw [Bool.and_eq_true]; exact h3
  refine ⟨?_, nil_mute _, nil_mute _, rest_mute h3', h4, h5⟩
  show (x.Neck.mute.okf && x.Bridge.mute.okf && (x.Damp.mute.ok && x.Damp.mute.Kind == 1) && (fin x.Slope && fin x.Loss)) = true
  rw [mute_okf h1, mute_okf h2, mute_ok1 h3', h4, h5]; rfl
theorem bow_nil_step {x : GBow} (N : x.Nil) : (x.step 0).1.Nil ∧ (x.step 0).2 = 0 := by
  obtain ⟨hn, hb, hd, hs, hl⟩ := N
  have ob : x.Bridge.old = 0 := nil_get hb _
  have on : x.Neck.old = 0 := nil_get hn _
  obtain ⟨r1, r2⟩ := rest_step1 (a := x.Bridge.old) hd (by rw [ob]; exact z0)
  have hu : Z2 x.u := zneg (zmul hl r2)
  have hv : Z2 x.v := by unfold GBow.v; rw [on]; exact zneg z0
  have hd' : Z2 (x.d 0) := zsub z0 (zadd hu hv)
  have hw : Z2 (x.w 0) := by unfold GBow.w; rw [zfric hs hd']; exact zone hd'
  refine ⟨⟨?_, ?_, r1, hs, hl⟩, ob⟩
  · show (x.Neck.push (kept _)).nil
    rw [zkept (zadd hu hw)]; exact nil_push hn
  · show (x.Bridge.push (kept _)).nil
    rw [zkept (zadd hv hw)]; exact nil_push hb
theorem bow_nil_silent {x : GBow} (N : x.Nil) : x.silent = true := by
  unfold GBow.silent
  rw [nil_zero N.n, nil_zero N.b, rest_still N.d]; rfl
def jetAt (p : Nat) : Nat := clamp (fmul .f32 p (fsub .f32 (fmul .f32 p p) 1065353216)) 1065353216
def GJet.ok (x : GJet) : Bool := x.Throat.okf && x.Bore.okf && (x.Low.ok && x.Low.Kind == 1) && (x.Dc.ok && x.Dc.Kind == 5) && (fin x.Near && fin x.Far)
def GJet.step (x : GJet) (a : Nat) : GJet × Nat :=
  let l := x.Low.step x.Bore.old
  let d := x.Dc.step l.2
  ({ x with Throat := x.Throat.push (kept (fsub .f32 a (fmul .f32 x.Near d.2))), Bore := x.Bore.push (kept (fadd .f32 (jetAt x.Throat.old) (fmul .f32 x.Far d.2))), Low := l.1, Dc := d.1 }, x.Bore.old)
def GJet.mute (x : GJet) : GJet := { x with Throat := x.Throat.mute, Bore := x.Bore.mute, Low := x.Low.mute, Dc := x.Dc.mute }
def GJet.silent (x : GJet) : Bool := x.Throat.zero && x.Bore.zero && x.Low.still && x.Dc.still
structure GJet.Nil (x : GJet) : Prop where
  t : x.Throat.nil
  b : x.Bore.nil
  l : Rest 1 x.Low
  d : Rest 5 x.Dc
  n : fin x.Near = true
  f : fin x.Far = true
theorem jet_mute_ok {x : GJet} (h : x.ok = true) : x.mute.ok = true ∧ x.mute.Nil := by
  unfold GJet.ok at *
  simp only [Bool.and_eq_true] at h
  obtain ⟨⟨⟨⟨h1, h2⟩, h3⟩, h4⟩, h5, h6⟩ := h
  have h3' : (x.Low.ok && x.Low.Kind == 1) = true := by rw [Bool.and_eq_true]; exact h3
  have h4' : (x.Dc.ok && x.Dc.Kind == 5) = true := by rw [Bool.and_eq_true]; exact h4
  refine ⟨?_, nil_mute _, nil_mute _, rest_mute h3', rest_mute h4', h5, h6⟩
  show (x.Throat.mute.okf && x.Bore.mute.okf && (x.Low.mute.ok && x.Low.mute.Kind == 1) && (x.Dc.mute.ok && x.Dc.mute.Kind == 5) && (fin x.Near && fin x.Far)) = true
  rw [mute_okf h1, mute_okf h2, mute_ok1 h3', mute_ok1 h4', h5, h6]; rfl
theorem jetAt0 : Z2 (jetAt 0) := by
  have : jetAt 0 = 0 ∨ jetAt 0 = 2147483648 := by decide +kernel
  exact this
theorem jet_nil_step {x : GJet} (N : x.Nil) : (x.step 0).1.Nil ∧ (x.step 0).2 = 0 := by
  obtain ⟨ht, hb, hl, hd, hn, hf⟩ := N
  have ob : x.Bore.old = 0 := nil_get hb _
  have ot : x.Throat.old = 0 := nil_get ht _
  obtain ⟨r1, r2⟩ := rest_step1 (a := x.Bore.old) hl (by rw [ob]; exact z0)
  obtain ⟨q1, q2⟩ := rest_step5 hd r2
  refine ⟨⟨?_, ?_, r1, q1, hn, hf⟩, ob⟩
  · show (x.Throat.push (kept _)).nil
    rw [zkept (zsub z0 (zmul hn q2))]; exact nil_push ht
  · show (x.Bore.push (kept _)).nil
    rw [zkept (zadd (by rw [ot]; exact jetAt0) (zmul hf q2))]; exact nil_push hb
theorem jet_nil_silent {x : GJet} (N : x.Nil) : x.silent = true := by
  unfold GJet.silent
  rw [nil_zero N.t, nil_zero N.b, rest_still N.l, rest_still N.d]; rfl
structure GRoom.Nil (x : GRoom) : Prop where
  e : x.Early.nil
  t : ∀ t ∈ x.Taps, fin t.Gain = true
  c2 : x.Combs.length = 2
  c : ∀ c ∈ x.Combs, c.Ring.nil ∧ fin c.Gain = true
  l4 : x.Loops.length = 4
  l : ∀ r ∈ x.Loops, r.nil
  d4 : x.Damps.length = 4
  d : ∀ f ∈ x.Damps, Rest 1 f
  g4 : x.Gains.length = 4
  g : ∀ a ∈ x.Gains, fin a = true
  dry : fin x.Dry = true
  wet : fin x.Wet = true
theorem room_mute_ok {x : GRoom} (h : x.ok = true) (c2 : x.Combs.length = 2) (l4 : x.Loops.length = 4) (d4 : x.Damps.length = 4) (g4 : x.Gains.length = 4) : x.mute.ok = true ∧ x.mute.Nil := by
  rw [room_ok] at *
  simp only [Bool.and_eq_true, List.all_eq_true] at h
  obtain ⟨⟨⟨⟨⟨⟨⟨⟨h1, h2⟩, h3⟩, h4⟩, h5⟩, h6⟩, h7⟩, h8⟩, h9⟩ := h
  have ch : ∀ c ∈ x.Combs, c.Ring.okf = true ∧ fin c.Gain = true := fun c hc => by
    have := h3 c hc
    unfold GComb.ok at this
    rw [Bool.and_eq_true] at this
    exact this
  have dh : ∀ f ∈ x.Damps, (f.ok && f.Kind == 1) = true := fun f hf => by rw [Bool.and_eq_true]; exact h5 f hf
  unfold allFin at *
  rw [List.all_eq_true] at h7
  refine ⟨?_, nil_mute _, fun t ht => ?_, by simp [GRoom.mute, c2], fun c hc => ?_, by simp [GRoom.mute, l4], fun r hr => ?_, by simp [GRoom.mute, d4], fun f hf => ?_, g4, h7, h8, h9⟩
  · simp only [Bool.and_eq_true, List.all_eq_true]
    have e1 : x.mute.Early.len = x.Early.len := by show (((List.replicate _ 0).length : Nat) : Int) = _; rw [List.length_replicate]; rfl
    refine ⟨⟨⟨⟨⟨⟨⟨⟨mute_okf h1, h2⟩, fun c hc => ?_⟩, fun r hr => ?_⟩, fun f hf => ?_⟩, fun t ht => ?_⟩, h7⟩, h8⟩, h9⟩
    · obtain ⟨d, hd, rfl⟩ := List.mem_map.1 hc
      unfold GComb.ok
      rw [mute_okf (ch d hd).1, (ch d hd).2]; rfl
    · obtain ⟨d, hd, rfl⟩ := List.mem_map.1 hr
      exact mute_okf (h4 d hd)
    · obtain ⟨d, hd, rfl⟩ := List.mem_map.1 hf
      have := mute_ok1 (dh d hd)
      rw [Bool.and_eq_true] at this
      exact this
    · rw [e1]; exact h6 t ht
  · have := h6 t ht
    unfold GTap.ok at this
    rw [Bool.and_eq_true] at this
    exact this.2
  · obtain ⟨d, hd, rfl⟩ := List.mem_map.1 hc
    exact ⟨nil_mute _, (ch d hd).2⟩
  · obtain ⟨d, hd, rfl⟩ := List.mem_map.1 hr
    exact nil_mute _
  · obtain ⟨d, hd, rfl⟩ := List.mem_map.1 hf
    exact rest_mute (dh d hd)
theorem comb_nil_step {c : GComb} {a : Nat} (hr : c.Ring.nil) (hg : fin c.Gain = true) (ha : Z2 a) : (c.step a).1.Ring.nil ∧ (c.step a).1.Gain = c.Gain ∧ Z2 (c.step a).2 := by
  have o : c.Ring.old = 0 := nil_get hr _
  have hw : Z2 (fadd .f32 a (fmul .f32 c.Gain c.Ring.old)) := zadd ha (zmul hg (by rw [o]; exact z0))
  refine ⟨?_, rfl, zsub (by rw [o]; exact z0) (zmul hg hw)⟩
  show (c.Ring.push (kept _)).nil
  rw [zkept hw]; exact nil_push hr
theorem early_nil {x : GRoom} (N : x.Nil) : Z2 x.early := by
  have hb : ∀ k, x.Early.back k = 0 := fun k => nil_get N.e _
  have ht := N.t
  unfold GRoom.early
  generalize x.Taps = ts at ht
  cases ts with
  | nil => exact z0
  | cons t ts =>
    have key : ∀ (ts : List GTap) (m : Nat), Z2 m → (∀ t ∈ ts, fin t.Gain = true) → Z2 (ts.foldl (fun m t => fadd .f32 m (fmul .f32 t.Gain (x.Early.back t.Back))) m) := by
      intro ts
      induction ts with
      | nil => intro m hm _; exact hm
      | cons u ts ih =>
        intro m hm hh
        exact ih _ (zadd hm (zmul (hh u (List.mem_cons_self ..)) (by rw [hb]; exact z0))) fun t h => hh t (List.mem_cons_of_mem _ h)
    exact key ts _ (zmul (ht t (List.mem_cons_self ..)) (by rw [hb]; exact z0)) fun t h => ht t (List.mem_cons_of_mem _ h)
theorem fin_half' : fin half = true := by decide +kernel
theorem mix_nil {l : List Nat} (h : ∀ i, i < 4 → Z2 l[i]!) : ∀ i, i < 4 → Z2 (mixFour l)[i]! := fun i hi => by
  have h0 := h 0 (by omega)
  have h1 := h 1 (by omega)
  have h2 := h 2 (by omega)
  have h3 := h 3 (by omega)
  unfold mixFour
  rcases (show i = 0 ∨ i = 1 ∨ i = 2 ∨ i = 3 by omega) with rfl | rfl | rfl | rfl
  · exact zmul fin_half' (zadd (zadd h0 h1) (zadd h2 h3))
  · exact zmul fin_half' (zadd (zsub h0 h1) (zsub h2 h3))
  · exact zmul fin_half' (zsub (zadd h0 h1) (zadd h2 h3))
  · exact zmul fin_half' (zsub (zsub h0 h1) (zsub h2 h3))
theorem room_nil_step {x : GRoom} (N : x.Nil) : (x.step 0).1.Nil ∧ Z2 (x.step 0).2 := by
  have he := early_nil N
  obtain ⟨e, t, c2, c, l4, l, d4, d, g4, g, dry, wet⟩ := N
  have k0 := c _ (mem_get (show 0 < x.Combs.length by omega))
  have k1 := c _ (mem_get (show 1 < x.Combs.length by omega))
  obtain ⟨a1, a2, a3⟩ := comb_nil_step k0.1 k0.2 (zadd z0 he)
  obtain ⟨b1, b2, b3⟩ := comb_nil_step k1.1 k1.2 a3
  have ho : ∀ i, i < 4 → (x.Loops.map GRing.old)[i]! = 0 := fun i hi => by
    rw [getElem!_pos _ i (by rw [List.length_map]; omega), List.getElem_map, ← getElem!_pos x.Loops i (by omega)]
    exact nil_get (l _ (mem_get (by omega))) _
  have hf : ∀ i, i < 4 → Rest 1 (x.Damps[i]!.step (fmul .f32 x.Gains[i]! (x.Loops.map GRing.old)[i]!)).1 ∧ Z2 (x.Damps[i]!.step (fmul .f32 x.Gains[i]! (x.Loops.map GRing.old)[i]!)).2 := fun i hi =>
    rest_step1 (d _ (mem_get (by omega))) (zmul (g _ (mem_get (by omega))) (by rw [ho i hi]; exact z0))
  have hg : ∀ i, i < 4 → Z2 ((((List.range 4).map fun i => x.Damps[i]!.step (fmul .f32 x.Gains[i]! (x.Loops.map GRing.old)[i]!)).map (·.2))[i]!) := fun i hi => by
    rw [getElem!_pos _ i (by simpa using hi), List.getElem_map, List.getElem_map, List.getElem_range]
    exact (hf i hi).2
  have hm := mix_nil hg
  refine ⟨⟨?_, t, rfl, fun q hq => ?_, by simp [GRoom.step], fun r hr => ?_, by simp [GRoom.step], fun f hf' => ?_, g4, g, dry, wet⟩, ?_⟩
  · show (x.Early.push (kept 0)).nil
    rw [zkept z0]; exact nil_push e
  · have e : (x.step 0).1.Combs = [(x.Combs[0]!.step (fadd .f32 0 x.early)).1, (x.Combs[1]!.step (x.Combs[0]!.step (fadd .f32 0 x.early)).2).1] := rfl
    rw [e] at hq
    simp only [List.mem_cons, List.not_mem_nil, or_false] at hq
    rcases hq with rfl | rfl
    · exact ⟨a1, by rw [a2]; exact k0.2⟩
    · exact ⟨b1, by rw [b2]; exact k1.2⟩
  · unfold GRoom.step at hr
    simp only [List.mem_map, List.mem_range] at hr
    obtain ⟨i, hi, rfl⟩ := hr
    rw [zkept (zadd b3 (hm i hi))]
    exact nil_push (l _ (mem_get (by omega)))
  · unfold GRoom.step at hf'
    simp only [List.mem_map, List.mem_range] at hf'
    obtain ⟨q, ⟨i, hi, rfl⟩, rfl⟩ := hf'
    exact (hf i hi).1
  · show Z2 (fadd .f32 (fmul .f32 x.Dry 0) (fmul .f32 x.Wet (fadd .f32 (fadd .f32 (x.Loops.map GRing.old)[0]! (x.Loops.map GRing.old)[1]!) (fadd .f32 (x.Loops.map GRing.old)[2]! (x.Loops.map GRing.old)[3]!))))
    rw [ho 0 (by omega), ho 1 (by omega), ho 2 (by omega), ho 3 (by omega)]
    exact zadd (zmul dry z0) (zmul wet (zadd (zadd z0 z0) (zadd z0 z0)))
theorem room_nil_zero {x : GRoom} (N : x.Nil) : x.zero = true := by
  unfold GRoom.zero
  rw [nil_zero N.e]
  have h1 : x.Combs.all (fun c => c.Ring.zero) = true := List.all_eq_true.2 fun c hc => nil_zero (N.c c hc).1
  have h2 : x.Loops.all GRing.zero = true := List.all_eq_true.2 fun r hr => nil_zero (N.l r hr)
  have h3 : x.Damps.all GFilter.still = true := List.all_eq_true.2 fun f hf => rest_still (N.d f hf)
  rw [h1, h2, h3]; rfl
theorem room_nil_play {x : GRoom} (N : x.Nil) (n : Nat) : (x.play (List.replicate n 0)).1.Nil ∧ ∀ a ∈ (x.play (List.replicate n 0)).2, Z2 a := by
  induction n generalizing x with
  | zero => exact ⟨N, fun a ha => nomatch ha⟩
  | succ n ih =>
    obtain ⟨h1, h2⟩ := room_nil_step N
    obtain ⟨h3, h4⟩ := ih h1
    refine ⟨h3, fun a ha => ?_⟩
    have ha : a ∈ (x.step 0).2 :: ((x.step 0).1.play (List.replicate n 0)).2 := ha
    rcases List.mem_cons.1 ha with rfl | ha
    · exact h2
    · exact h4 a ha
end Go.Sx
