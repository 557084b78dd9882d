/- opI_sound: the rest of the operations, and all together. -/
import Derived.Test.YtnhcoeogejgidabGreatDoorSx4
set_option linter.unusedSectionVars false
namespace Go.Sx
variable [Mode]
variable {P : Program} {τ : Static}

theorem foldl_splice : ∀ (cs : List Value) (off k : Nat) (cells : Array Value), off + k + cs.length ≤ cells.size →
    ((cs.zipIdx k).foldl (fun acc (x : Value × Nat) => acc.setIfInBounds (off + x.2) x.1) cells).toList = cells.toList.take (off + k) ++ (cs ++ cells.toList.drop (off + k + cs.length))
  | [], off, k, cells, _ => by simp
  | c :: cs, off, k, cells, h => by
    simp only [List.length_cons] at h
    rw [List.zipIdx_cons, List.foldl_cons, foldl_splice cs off (k + 1) _ (by simp; omega)]
    simp only [Array.toList_setIfInBounds]
    rw [← Nat.add_assoc]
    have hl : off + k < cells.toList.length := by simp; omega
    rw [List.take_succ_eq_append_getElem (by simpa using hl), List.getElem_set_self, List.take_set_of_le (by omega), List.drop_set_of_lt (by omega)]
    simp only [List.append_assoc, List.cons_append, List.nil_append, List.length_cons]
    rw [show off + k + 1 + cs.length = off + k + (cs.length + 1) from by omega]
theorem cells_of_not_agg {v : Value} (h : ∀ cs, v ≠ .agg cs) : v.cells = #[v] := by
  cases v <;> first | rfl | exact absurd rfl (h _)
theorem fill_step {pl : Nat → Option (Nat × Nat)} (cells : Array Value) (i : Nat) (v : Value) (rest : List (Nat × Value)) {off size : Nat} (hp : pl i = some (off, size)) (h1 : v.cells.size = size) (h2 : off + size ≤ cells.size) :
    Instr.fill pl cells ((i, v) :: rest) = Instr.fill pl (v.cells.zipIdx.foldl (fun cs (c, j) => cs.setIfInBounds (off + j) c) cells) rest := by
  rw [Instr.fill, hp]
  simp only [h1]
  rw [if_neg (by simp; omega)]
theorem fill_ok {pl : Nat → Option (Nat × Nat)} {n0 : Nat} : ∀ (parts : List (Nat × Value)) (cells : List Value) (F : List Value → Prop), cells.length = n0 → fillI pl n0 parts cells F →
    ∃ cells', Instr.fill pl ⟨cells⟩ parts = some ⟨cells'⟩ ∧ F cells'
  | [], cells, F, _, h => ⟨cells, rfl, h⟩
  | (i, v) :: rest, cells, F, hn, h => by
    unfold fillI at h
    split at h
    · exact h.elim
    · rename_i off size hp
      cases hb : Nat.ble (off + size) n0 with
      | false => rw [hb] at h; exact h.elim
      | true =>
        rw [hb] at h
        simp only [cond_true] at h
        rw [Nat.ble_eq] at hb
        split at h
        · rename_i cs
          obtain ⟨hs, h⟩ := h
          have hl : (splice off size cs cells).length = n0 := by
            simp [splice, List.length_take, List.length_drop, hs]; omega
          obtain ⟨c', h1, h2⟩ := fill_ok rest _ F hl h
          refine ⟨c', ?_, h2⟩
          rw [fill_step ⟨cells⟩ i (.agg cs) rest hp hs (by show off + size ≤ cells.length; omega), ← h1]
          congr 1
          apply Array.toList_inj.1
          simp only [Value.cells]
          rw [← Array.foldl_toList, Array.toList_zipIdx, foldl_splice cs.toList off 0 ⟨cells⟩ (by show off + 0 + cs.toList.length ≤ cells.length; rw [Array.length_toList]; omega)]
          simp [splice, hs]
        · rename_i hna
          cases h1' : Nat.beq size 1 with
          | false => rw [h1'] at h; exact h.elim
          | true =>
            rw [h1'] at h
            simp only [cond_true] at h
            rw [Nat.beq_eq] at h1'
            subst h1'
            obtain ⟨c', h1, h2⟩ := fill_ok rest _ F (by simpa using hn) h
            refine ⟨c', ?_, h2⟩
            have hvc : v.cells = #[v] := cells_of_not_agg (fun cs e => hna cs e)
            rw [fill_step ⟨cells⟩ i v rest hp (by rw [hvc]; rfl) (by show off + 1 ≤ cells.length; omega), ← h1, hvc]
            congr 1
            apply Array.toList_inj.1
            rw [← Array.foldl_toList]
            simp

theorem run_mapM_list {α β : Type} (g : α → Sem β) (g' : α → β) (w : World) : ∀ l : List α, (∀ a ∈ l, (g a).run P w = .ok (g' a) w) → (l.mapM g).run P w = .ok (l.map g') w
  | [], _ => rfl
  | a :: l, h => by
    rw [List.mapM_cons]
    simp [h a (List.mem_cons_self ..), run_mapM_list g g' w l (fun b hb => h b (List.mem_cons_of_mem _ hb))]
theorem run_mapM_array {α β : Type} (g : α → Sem β) (g' : α → β) (w : World) (l : Array α) (h : ∀ a ∈ l, (g a).run P w = .ok (g' a) w) : (l.mapM g).run P w = .ok (l.map g') w := by
  rw [Array.mapM_eq_mapM_toList]
  rw [Sem.run_map, run_mapM_list g g' w l.toList (fun a ha => h a (by simpa using ha))]
  show Result.ok (l.toList.map g').toArray w = _
  rw [← Array.toList_map, Array.toArray_toList]

theorem alc_same (w : World) (o : Obj) : Same w { w with heap := w.heap.push o } := ⟨rfl, rfl, rfl, fun _ => Nat.le_refl _⟩

theorem opI_build (hτ : OkS P τ) {o : Oper} {t : Nat} {parts : Array (Nat × Operand)} (ho : o.op = .build t parts) {ev : Operand → Value} {K : Value → Heap → Prop} {h : Heap} (H : opI P τ o ev K h) :
    SEMV P (Instr.build t (parts.map fun (i, x) => (i, ev x))) K h := by
  unfold opI at H
  rw [ho] at H
  simp only [] at H
  have hparts : (parts.map fun (i, x) => (i, ev x)).toList = parts.toList.map fun p => (p.1, ev p.2) := by simp
  split at H
  · rename_i fs n b z hi
    obtain ⟨d, h1, h2, h3⟩ := run_und hτ hi
    cases hz : z.isEmpty || !(fs.all fun f => (ti τ f.1).isSome) with
    | true => rw [hz] at H; exact H.elim
    | false =>
      rw [hz] at H
      simp only [cond_false] at H
      rw [Bool.or_eq_false_iff] at hz
      obtain ⟨hz1, hz2⟩ := hz
      obtain ⟨zv, hzv, hzr⟩ := run_zero hτ hi (by intro e; simp only at e; rw [e] at hz1; cases hz1)
      simp only at hzv
      obtain ⟨flds, rfl, hfl⟩ : ∃ flds : Array Field, d = .struct flds ∧ flds.toList.map (fun f => (f.type, f.offset)) = fs := by
        cases d <;> simp_all [tyOf]
      obtain ⟨c', hc1, hc2⟩ := fill_ok _ _ _ rfl H
      refine semn_v (fun w _ => ?_) hc2
      have hall : ∀ f ∈ flds, ∃ j, ti τ f.type = some j := by
        intro f hf
        have : (f.type, f.offset) ∈ fs := by rw [← hfl]; exact List.mem_map.2 ⟨f, by simpa using hf, rfl⟩
        have hz2' : (fs.all fun f => (ti τ f.1).isSome) = true := by simpa using hz2
        have := (List.all_eq_true.1 hz2') _ this
        exact Option.isSome_iff_exists.1 this
      have hpl : (flds.mapM fun f => do pure (f.offset, ← sizeOf f.type) : Sem (Array (Nat × Nat))).run P w = .ok (flds.map fun f => (f.offset, ((ti τ f.type).map (·.size)).getD 0)) w := by
        refine run_mapM_array _ _ w flds fun f hf => ?_
        obtain ⟨j, hj⟩ := hall f hf
        simp [run_size hτ hj, hj]
      have hfill : Instr.fill ((flds.map fun f => (f.offset, ((ti τ f.type).map (·.size)).getD 0))[·]?) zv.cells (parts.map fun (i, x) => (i, ev x)).toList = some ⟨c'⟩ := by
        rw [hparts, ← hc1]
        have hp : ((flds.map fun f => (f.offset, ((ti τ f.type).map (·.size)).getD 0))[·]?) = fldPl τ fs := by
          funext i
          unfold fldPl
          rw [← hfl]
          simp only [Array.getElem?_map, List.getElem?_map, Array.getElem?_toList]
          cases hf : flds[i]? with
          | none => rfl
          | some f =>
            obtain ⟨j, hj⟩ := hall f (Array.mem_of_getElem? hf)
            simp [hj]
        rw [hp]
        congr 1
        exact Array.toList_inj.1 hzv
      simp only [Instr.build, Sem.run_bind, hzr, Result.andThen_ok, h3, hpl]
      rw [hfill]
      rfl
  · rename_i n e sz b z hi
    obtain ⟨d, h1, h2, h3⟩ := run_und hτ hi
    have hd : d = .array n e := by cases d <;> simp_all [tyOf]
    subst hd
    split at H
    · rename_i j hj
      cases hz : z.isEmpty with
      | true => rw [hz] at H; exact H.elim
      | false =>
        rw [hz] at H
        simp only [cond_false] at H
        obtain ⟨zv, hzv, hzr⟩ := run_zero hτ hi (by intro e; simp only at e; rw [e] at hz; cases hz)
        simp only at hzv
        obtain ⟨c', hc1, hc2⟩ := fill_ok _ _ _ rfl H
        refine semn_v (fun w _ => ?_) hc2
        have hfill : Instr.fill (fun i => some (i * j.size, j.size)) zv.cells (parts.map fun (i, x) => (i, ev x)).toList = some ⟨c'⟩ := by
          rw [hparts, ← hc1]
          congr 1
          exact Array.toList_inj.1 hzv
        simp only [Instr.build, Sem.run_bind, hzr, Result.andThen_ok, h3, run_size hτ hj]
        rw [hfill]
        rfl
    · exact H.elim
  · exact H.elim

theorem opI_buildSlice (hτ : OkS P τ) {o : Oper} {t len : Nat} {parts : Array (Nat × Operand)} (ho : o.op = .buildSlice t len parts) {ev : Operand → Value} {K : Value → Heap → Prop} {h : Heap} (H : opI P τ o ev K h) :
    SEMV P (Instr.buildSlice t len (parts.map fun (i, x) => (i, ev x))) K h := by
  unfold opI at H
  rw [ho] at H
  simp only [] at H
  have hparts : (parts.map fun (i, x) => (i, ev x)).toList = parts.toList.map fun p => (p.1, ev p.2) := by simp
  split at H
  · rename_i e sz b z hi
    obtain ⟨d, h1, h2, h3⟩ := run_und hτ hi
    have hd : d = .slice e := by cases d <;> simp_all [tyOf]
    subst hd
    split at H
    · rename_i j hj
      cases hc : Nat.ble (len * j.size) 16777216 && (Nat.beq (len * j.size) 0 || !j.zero.isEmpty) with
      | false => rw [hc] at H; exact H.elim
      | true =>
        rw [hc] at H
        simp only [cond_true] at H
        rw [Bool.and_eq_true, Nat.ble_eq] at hc
        obtain ⟨hle, hzz⟩ := hc
        obtain ⟨c', hc1, hc2⟩ := fill_ok _ _ _ (by simp [zerosI]) H
        refine semn_v' fun w hw => ?_
        refine ⟨.slice (some ⟨w.heap.size, 0, none⟩) len len, { w with heap := w.heap.push (.cells ⟨c'⟩ e) }, ?_, alc_same w _, by rw [hw]; exact hc2⟩
        simp only [Instr.buildSlice, Sem.run_bind, h3, Result.andThen_ok, run_size hτ hj]
        rw [if_neg (by omega)]
        have gen : ∀ (l : List Value) (i : Nat) (hi : i < l.length), lget l i = l[i] := by
          intro l
          induction l with
          | nil => intro i hi; simp at hi
          | cons a l ih => intro i hi; cases i with
            | zero => rfl
            | succ i => exact ih i (by simpa using hi)
        by_cases h0 : len * j.size = 0
        · rw [if_pos h0]
          simp only [pure_bind]
          have hz2 : ((Array.range (len * j.size)).map fun x => (#[] : Array Value)[x % (#[] : Array Value).size]!) = ⟨zerosI j (len * j.size)⟩ := by rw [h0, Array.range_zero']; apply Array.toList_inj.1; simp [zerosI]
          rw [hz2, hparts, hc1]
          rfl
        · rw [if_neg h0]
          have hne : j.zero ≠ [] := by
            intro e0
            rw [e0] at hzz
            simp at hzz
            omega
          obtain ⟨zv, hzv, hzr⟩ := run_zero hτ hj hne
          have hz2 : ((Array.range (len * j.size)).map fun x => zv.cells[x % zv.cells.size]!) = ⟨zerosI j (len * j.size)⟩ := by
            apply Array.toList_inj.1
            simp only [zerosI, Array.toList_map, Array.toList_range]
            refine List.map_congr_left fun x _ => ?_
            rw [← hzv]
            have hpos : 0 < zv.cells.size := by
              have : 0 < j.zero.length := List.length_pos_iff.2 hne
              rw [← hzv] at this
              simpa using this
            have hlt : x % zv.cells.size < zv.cells.size := Nat.mod_lt _ hpos
            rw [Array.length_toList, gen _ _ (by simpa using hlt)]
            simp [getElem!_pos, hlt]
          simp only [Sem.run_bind, hzr, Result.andThen_ok, pure_bind]
          rw [hz2, hparts, hc1]
          rfl
    · exact H.elim
  · exact H.elim
end Go.Sx
