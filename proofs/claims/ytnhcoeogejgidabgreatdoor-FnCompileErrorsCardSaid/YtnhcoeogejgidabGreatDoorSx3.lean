/- The words say no less than the model does: opI_sound. -/
import Derived.Test.YtnhcoeogejgidabGreatDoorSx1
set_option linter.unusedSectionVars false
namespace Go.Sx
variable [Mode]
variable {P : Program} {τ : Static}

theorem UponN.mono {r : Result Next} {N N' : Value → World → Prop} (hn : ∀ v w, N v w → N' v w) (h : UponN P r N) : UponN P r N' := by
  cases r with
  | ok n w => cases n <;> first
    | exact hn _ _ h
    | exact h.elim
    | exact Calls.mono h fun e w' ⟨v, he, hv⟩ => ⟨v, he, hn _ _ hv⟩
  | halt x w => exact h.elim
theorem SEMN.mono {s : Sem Next} {K K' : Value → Heap → Prop} {h : Heap} (hk : ∀ v h, K v h → K' v h) (H : SEMN P s K h) : SEMN P s K' h :=
  fun w hw => UponN.mono (fun _ _ ⟨a, b⟩ => ⟨a, hk _ _ b⟩) (H w hw)
theorem CALL.mono {f : FuncId} {args : Array Value} {K K' : Value → Heap → Prop} {h : Heap} (hk : ∀ v h, K v h → K' v h) (H : CALL P f args K h) : CALL P f args K' h := SEMN.mono hk H

theorem asI_out {k : IntKind} {v : Value} {F : Int → Prop} (h : asI k v F) : ∃ n, v = .int k n ∧ F n := by
  cases v <;> simp only [asI] at h <;> first | exact h.elim | skip
  split at h
  · rename_i e; subst e; exact ⟨_, rfl, h⟩
  · exact h.elim
theorem asB_out {v : Value} {F : Bool → Prop} (h : asB v F) : ∃ n, v = .bool n ∧ F n := by
  cases v <;> simp only [asB] at h <;> first | exact h.elim | exact ⟨_, rfl, h⟩
theorem asF_out {k : FloatKind} {v : Value} {F : Nat → Prop} (h : asF k v F) : ∃ n, v = .float k n ∧ F n := by
  cases v <;> simp only [asF] at h <;> first | exact h.elim | skip
  split at h
  · rename_i e; subst e; exact ⟨_, rfl, h⟩
  · exact h.elim
theorem asS_out {v : Value} {F : ByteArray → Prop} (h : asS v F) : ∃ n, v = .string n ∧ F n := by
  cases v <;> simp only [asS] at h <;> first | exact h.elim | exact ⟨_, rfl, h⟩
theorem asP_out {v : Value} {F : Addr → Prop} (h : asP v F) : ∃ n, v = .pointer (some n) ∧ F n := by
  cases v <;> simp only [asP] at h <;> first | exact h.elim | skip
  split at h <;> first | exact h.elim | exact ⟨_, by simp_all, h⟩
theorem asL_out {v : Value} {F : Option Addr → Nat → Nat → Prop} (h : asL v F) : ∃ b l c, v = .slice b l c ∧ F b l c := by
  cases v <;> simp only [asL] at h <;> first | exact h.elim | exact ⟨_, _, _, rfl, h⟩
theorem asA_out {v : Value} {F : Array Value → Prop} (h : asA v F) : ∃ n, v = .agg n ∧ F n := by
  cases v <;> simp only [asA] at h <;> first | exact h.elim | exact ⟨_, rfl, h⟩
theorem TUP2_out {v : Value} {F : Value → Value → Prop} (h : TUP2 v F) : ∃ a b, v = .tuple ⟨[a, b]⟩ ∧ F a b := by
  unfold TUP2 at h; split at h <;> first | exact h.elim | exact ⟨_, _, rfl, h⟩
theorem TUP3_out {v : Value} {F : Value → Value → Value → Prop} (h : TUP3 v F) : ∃ a b c, v = .tuple ⟨[a, b, c]⟩ ∧ F a b c := by
  unfold TUP3 at h; split at h <;> first | exact h.elim | exact ⟨_, _, _, rfl, h⟩
theorem TUP4_out {v : Value} {F : Value → Value → Value → Value → Prop} (h : TUP4 v F) : ∃ a b c d, v = .tuple ⟨[a, b, c, d]⟩ ∧ F a b c d := by
  unfold TUP4 at h; split at h <;> first | exact h.elim | exact ⟨_, _, _, _, rfl, h⟩
theorem TUP5_out {v : Value} {F : Value → Value → Value → Value → Value → Prop} (h : TUP5 v F) : ∃ a b c d e, v = .tuple ⟨[a, b, c, d, e]⟩ ∧ F a b c d e := by
  unfold TUP5 at h; split at h <;> first | exact h.elim | exact ⟨_, _, _, _, _, rfl, h⟩
theorem as1_out {t : Nat} {v : Value} {K : Value → Prop} (h : as1 τ t v K) : K v := by
  unfold as1 at h
  split at h
  · exact h
  · split at h
    · obtain ⟨n, rfl, h'⟩ := asI_out h; exact h'
    · obtain ⟨n, rfl, h'⟩ := asB_out h; exact h'
    · obtain ⟨n, rfl, h'⟩ := asF_out h; exact h'
    · obtain ⟨n, rfl, h'⟩ := asS_out h; exact h'
    · obtain ⟨n, rfl, h'⟩ := asP_out h; exact h'
    · obtain ⟨b, l, c, rfl, h'⟩ := asL_out h; exact h'
    · obtain ⟨n, rfl, h'⟩ := asA_out h; exact h'
    · obtain ⟨n, rfl, h'⟩ := asA_out h; exact h'
    · exact h
    · exact h
theorem asT_out {t : Nat} {v : Value} {K : Value → Prop} (h : asT τ t v K) : K v := by
  unfold asT at h
  split at h
  · exact h
  · obtain ⟨a, b, rfl, h'⟩ := TUP2_out h; replace h' := as1_out h'; replace h' := as1_out h'; exact h'
  · obtain ⟨a, b, c, rfl, h'⟩ := TUP3_out h; replace h' := as1_out h'; replace h' := as1_out h'; replace h' := as1_out h'; exact h'
  · obtain ⟨a, b, c, d, rfl, h'⟩ := TUP4_out h; replace h' := as1_out h'; replace h' := as1_out h'; replace h' := as1_out h'; replace h' := as1_out h'; exact h'
  · obtain ⟨a, b, c, d, e, rfl, h'⟩ := TUP5_out h; replace h' := as1_out h'; replace h' := as1_out h'; replace h' := as1_out h'; replace h' := as1_out h'; replace h' := as1_out h'; exact h'
  · exact as1_out h
theorem oI_out {k : IntKind} {v : Option Value} {F : Int → Prop} (h : oI k v F) : ∃ n, v = some (.int k n) ∧ F n := by
  cases v with | none => exact h.elim | some v => obtain ⟨n, rfl, h'⟩ := asI_out h; exact ⟨n, rfl, h'⟩
theorem oB_out {v : Option Value} {F : Bool → Prop} (h : oB v F) : ∃ n, v = some (.bool n) ∧ F n := by
  cases v with | none => exact h.elim | some v => obtain ⟨n, rfl, h'⟩ := asB_out h; exact ⟨n, rfl, h'⟩
theorem oF_out {k : FloatKind} {v : Option Value} {F : Nat → Prop} (h : oF k v F) : ∃ n, v = some (.float k n) ∧ F n := by
  cases v with | none => exact h.elim | some v => obtain ⟨n, rfl, h'⟩ := asF_out h; exact ⟨n, rfl, h'⟩
theorem oS_out {v : Option Value} {F : ByteArray → Prop} (h : oS v F) : ∃ n, v = some (.string n) ∧ F n := by
  cases v with | none => exact h.elim | some v => obtain ⟨n, rfl, h'⟩ := asS_out h; exact ⟨n, rfl, h'⟩
theorem oP_out {v : Option Value} {F : Addr → Prop} (h : oP v F) : ∃ n, v = some (.pointer (some n)) ∧ F n := by
  cases v with | none => exact h.elim | some v => obtain ⟨n, rfl, h'⟩ := asP_out h; exact ⟨n, rfl, h'⟩
theorem oL_out {v : Option Value} {F : Option Addr → Nat → Nat → Prop} (h : oL v F) : ∃ b l c, v = some (.slice b l c) ∧ F b l c := by
  cases v with | none => exact h.elim | some v => obtain ⟨b, l, c, rfl, h'⟩ := asL_out h; exact ⟨b, l, c, rfl, h'⟩
theorem oV_out {v : Option Value} {F : Value → Prop} (h : oV v F) : ∃ n, v = some n ∧ F n := by
  cases v with | none => exact h.elim | some v => exact ⟨v, rfl, h⟩

theorem okTi (hτ : OkS P τ) {t : Nat} {i : TI} (h : ti τ t = some i) : okT P (t, i) := hτ _ (ti_mem h)
theorem und_of (hτ : OkS P τ) {t : Nat} {i : TI} (h : ti τ t = some i) : ∃ d, P.underlying t = some d ∧ tyOf d = i.ty := by
  obtain ⟨d, _, h1, h2, _⟩ := okTi hτ h; exact ⟨d, h1, h2⟩
theorem info_of (hτ : OkS P τ) {t : Nat} {i : TI} (h : ti τ t = some i) : ∃ j, P.info? t = some j ∧ j.size = i.size ∧ j.bytes = i.bytes ∧ (i.zero = [] ∨ ∃ z, j.zero = some z ∧ z.cells.toList = i.zero) := by
  obtain ⟨d, j, h1, h2, h3, h4, h5, h6⟩ := okTi hτ h; exact ⟨j, h3, h4, h5, h6⟩
theorem run_und (hτ : OkS P τ) {t : Nat} {i : TI} (h : ti τ t = some i) : ∃ d, P.underlying t = some d ∧ tyOf d = i.ty ∧ ∀ w, (underlying t).run P w = .ok d w := by
  obtain ⟨d, h1, h2⟩ := und_of hτ h; exact ⟨d, h1, h2, fun w => run_underlying h1 w⟩
theorem run_size (hτ : OkS P τ) {t : Nat} {i : TI} (h : ti τ t = some i) (w : World) : (sizeOf t).run P w = .ok i.size w := by
  obtain ⟨j, h1, h2, _⟩ := info_of hτ h
  simp [sizeOf, typeInfo, h1, h2]
theorem run_info (hτ : OkS P τ) {t : Nat} {i : TI} (h : ti τ t = some i) : ∃ j, P.info? t = some j ∧ j.size = i.size ∧ j.bytes = i.bytes ∧ ∀ w, (typeInfo t).run P w = .ok j w := by
  obtain ⟨j, h1, h2, h3, _⟩ := info_of hτ h
  exact ⟨j, h1, h2, h3, fun w => by simp [typeInfo, h1]⟩
theorem run_zero (hτ : OkS P τ) {t : Nat} {i : TI} (h : ti τ t = some i) (hz : i.zero ≠ []) : ∃ z : Value, z.cells.toList = i.zero ∧ ∀ w, (zeroValue t).run P w = .ok z w := by
  obtain ⟨j, h1, h2, h3, h4⟩ := info_of hτ h
  obtain ⟨z, hz1, hz2⟩ := h4.resolve_left hz
  exact ⟨z, hz2, fun w => by simp [zeroValue, typeInfo, h1, hz1]⟩
def aggTy : Ty → Bool | .arr _ _ => true | .st _ => true | _ => false
theorem run_isAgg (hτ : OkS P τ) {t : Nat} {i : TI} (h : ti τ t = some i) (w : World) : (isAgg t).run P w = .ok (aggTy i.ty) w := by
  obtain ⟨d, h1, h2, h3⟩ := run_und hτ h
  simp only [isAgg, Sem.run_bind, h3, Result.andThen_ok]
  rw [← h2]
  cases d <;> simp [tyOf, aggTy]

theorem run_loadVar_one (hτ : OkS P τ) {t : Nat} {i : TI} (h : ti τ t = some i) (ha : aggTy i.ty = false) {w : World} {a : Addr} {v : Value} (hc : cell w.heap a = some v) : (loadVar t a).run P w = .ok v w := by
  rw [← cell_eq] at hc
  simp [loadVar, run_isAgg hτ h, ha, hc]
theorem run_loadVar_agg (hτ : OkS P τ) {t : Nat} {i : TI} (h : ti τ t = some i) (ha : aggTy i.ty = true) {w : World} {a : Addr} {cs : Array Value} (hs : cs.size = i.size) (hc : ∀ j, j < i.size → cell w.heap (a.add j) = cs[j]?) : (loadVar t a).run P w = .ok (.agg cs) w := by
  have hl : (loadCells a i.size).run P w = .ok cs w := by
    have := run_loadCells_list (P := P) (w := w) a cs.toList (fun j v hj => by
      have hj' : j < i.size := by
        rw [← hs]
        simpa using (List.getElem?_eq_some_iff.1 hj).1
      rw [cell_eq, hc j hj']
      simpa using hj)
    simpa [hs] using this
  simp [loadVar, run_isAgg hτ h, ha, run_size hτ h, hl]
theorem LD_out (hτ : OkS P τ) {t : Nat} {w : World} {a : Addr} {K : Value → Prop} (h : LD τ t w.heap a K) : ∃ v, (loadVar t a).run P w = .ok v w ∧ K v := by
  unfold LD at h
  split at h
  · exact h.elim
  · rename_i i hi
    split at h
    · rename_i k e; obtain ⟨n, hc, h⟩ := oI_out h; exact ⟨_, run_loadVar_one hτ hi (by simp [e, aggTy]) hc, h⟩
    · rename_i e; obtain ⟨n, hc, h⟩ := oB_out h; exact ⟨_, run_loadVar_one hτ hi (by simp [e, aggTy]) hc, h⟩
    · rename_i k e; obtain ⟨n, hc, h⟩ := oF_out h; exact ⟨_, run_loadVar_one hτ hi (by simp [e, aggTy]) hc, h⟩
    · rename_i e; obtain ⟨n, hc, h⟩ := oS_out h; exact ⟨_, run_loadVar_one hτ hi (by simp [e, aggTy]) hc, h⟩
    · rename_i e; obtain ⟨n, hc, h⟩ := oP_out h; exact ⟨_, run_loadVar_one hτ hi (by simp [e, aggTy]) hc, h⟩
    · rename_i u e; obtain ⟨b, l, c, hc, h⟩ := oL_out h; exact ⟨_, run_loadVar_one hτ hi (by simp [e, aggTy]) hc, h⟩
    · rename_i n u e; obtain ⟨cs, h1, h2, h⟩ := h; exact ⟨_, run_loadVar_agg hτ hi (by simp [e, aggTy]) h1 h2, h⟩
    · rename_i fs e; obtain ⟨cs, h1, h2, h⟩ := h; exact ⟨_, run_loadVar_agg hτ hi (by simp [e, aggTy]) h1 h2, h⟩
    · rename_i e; obtain ⟨n, hc, h⟩ := oV_out h; exact ⟨_, run_loadVar_one hτ hi (by simp [e, aggTy]) hc, h⟩
    · exact h.elim
theorem run_part_one (hτ : OkS P τ) {t : Nat} {i : TI} (h : ti τ t = some i) (ha : aggTy i.ty = false) {w : World} {cs : Array Value} {off : Nat} {v : Value} (hc : cs[off]? = some v) : (part t cs off).run P w = .ok v w := by
  simp [part, run_isAgg hτ h, ha, hc]
theorem GT_out (hτ : OkS P τ) {t : Nat} {w : World} {cs : Array Value} {off : Nat} {K : Value → Prop} (h : GT τ t cs off K) : ∃ v, (part t cs off).run P w = .ok v w ∧ K v := by
  unfold GT at h
  split at h
  · exact h.elim
  · rename_i i hi
    split at h
    · rename_i k e; obtain ⟨n, hc, h⟩ := oI_out h; exact ⟨_, run_part_one hτ hi (by simp [e, aggTy]) hc, h⟩
    · rename_i e; obtain ⟨n, hc, h⟩ := oB_out h; exact ⟨_, run_part_one hτ hi (by simp [e, aggTy]) hc, h⟩
    · rename_i k e; obtain ⟨n, hc, h⟩ := oF_out h; exact ⟨_, run_part_one hτ hi (by simp [e, aggTy]) hc, h⟩
    · rename_i e; obtain ⟨n, hc, h⟩ := oS_out h; exact ⟨_, run_part_one hτ hi (by simp [e, aggTy]) hc, h⟩
    · rename_i e; obtain ⟨n, hc, h⟩ := oP_out h; exact ⟨_, run_part_one hτ hi (by simp [e, aggTy]) hc, h⟩
    · rename_i u e; obtain ⟨b, l, c, hc, h⟩ := oL_out h; exact ⟨_, run_part_one hτ hi (by simp [e, aggTy]) hc, h⟩
    · rename_i n u e; exact ⟨_, by simp [part, run_isAgg hτ hi, e, aggTy, run_size hτ hi], h⟩
    · rename_i fs e; exact ⟨_, by simp [part, run_isAgg hτ hi, e, aggTy, run_size hτ hi], h⟩
    · rename_i e; obtain ⟨n, hc, h⟩ := oV_out h; exact ⟨_, run_part_one hτ hi (by simp [e, aggTy]) hc, h⟩
    · exact h.elim

theorem cell_setc_isSome (h : Heap) (a b : Addr) (v : Value) : (cell (setc h a v) b).isSome = (cell h b).isSome := by
  unfold cell setc
  rw [Array.getElem?_modify]
  by_cases e : a.block = b.block
  · rw [if_pos e]
    cases hb : h[b.block]? with
    | none => rfl
    | some o =>
      cases o with
      | cells c t f =>
        simp only [Option.map_some]
        by_cases hs : b.spot.isSome = true
        · simp [hs]
        · by_cases ha : a.spot.isSome = true
          · simp [hs, ha]
          · simp only [hs, ha, Bool.false_eq_true, if_false]
            rw [Array.getElem?_setIfInBounds]
            split
            · rename_i e2; rw [e2]; split <;> simp_all
            · rfl
      | _ => rfl
  · rw [if_neg e]
theorem froz_setc (h : Heap) (a b : Addr) (v : Value) : froz (setc h a v) b = froz h b := by
  unfold froz setc
  rw [Array.getElem?_modify]
  by_cases e : a.block = b.block
  · rw [if_pos e]
    cases hb : h[b.block]? with
    | none => rfl
    | some o => cases o <;> rfl
  · rw [if_neg e]
theorem setCell_same (w : World) (a : Addr) (v : Value) : Same w (w.setCell a v) := ⟨rfl, rfl, rfl, fun _ => Nat.le_refl _⟩
theorem run_store1 {w : World} {a : Addr} {v : Value} (hv : v.oneCell' = true) (h1 : (cell w.heap a).isSome = true) (h2 : froz w.heap a = false) : (store a v).run P w = .ok () (w.setCell a v) := by
  rw [run_store P w a v .plain hv]
  rw [← cell_eq] at h1
  rw [← froz_eq] at h2
  obtain ⟨u, hu⟩ := Option.isSome_iff_exists.1 h1
  simp [hu, h2]
theorem run_storeCells_setcs (a : Addr) : ∀ (vs : List Value) (i : Nat) (w : World), (∀ v ∈ vs, v.oneCell' = true) →
    (∀ j, j < vs.length → (cell w.heap (a.add (i + j))).isSome = true ∧ froz w.heap (a.add (i + j)) = false) →
    ∃ w', (storeCells a vs i).run P w = .ok () w' ∧ Same w w' ∧ w'.heap = setcs w.heap a vs i
  | [], i, w, _, _ => ⟨w, rfl, Same.refl w, rfl⟩
  | v :: r, i, w, h1, h2 => by
    have h0 := h2 0 (by simp)
    rw [Nat.add_zero] at h0
    obtain ⟨w', hr, hs, hh⟩ := run_storeCells_setcs a r (i + 1) (w.setCell (a.add i) v) (fun u hu => h1 u (List.mem_cons_of_mem _ hu)) (fun j hj => by
      have := h2 (j + 1) (by simp; omega)
      rw [show i + (j + 1) = i + 1 + j from by omega] at this
      rw [setc_eq, cell_setc_isSome, froz_setc]
      exact this)
    refine ⟨w', ?_, (setCell_same w _ _).trans hs, ?_⟩
    · simp only [storeCells, Sem.run_bind, run_store1 (h1 v (List.mem_cons_self ..)) h0.1 h0.2, Result.andThen_ok]
      exact hr
    · rw [hh, setc_eq]; rfl
theorem OC_out {v : Value} {p : Prop} (h : OC v p) : v.oneCell' = true ∧ v.cells = #[v] ∧ p := by
  cases v <;> first | exact h.elim | exact ⟨rfl, rfl, h⟩
theorem run_store_one (hτ : OkS P τ) {t : Nat} {i : TI} (h : ti τ t = some i) (hs : i.size = 1) {w : World} {a : Addr} {v : Value} (hv : v.oneCell' = true) (hvc : v.cells = #[v]) (h1 : (cell w.heap a).isSome = true) (h2 : froz w.heap a = false) :
    (storeVar t a v).run P w = .ok () (w.setCell a v) := by
  have ha : a.add 0 = a := by simp [Addr.add]
  simp [storeVar, run_size hτ h, hs, hvc, storeCells, ha, run_store1 hv h1 h2]
theorem run_store_agg (hτ : OkS P τ) {t : Nat} {i : TI} (h : ti τ t = some i) {w : World} {a : Addr} {cs : Array Value} (hn : cs.size = i.size) (h1 : ∀ v ∈ cs.toList, v.oneCell' = true)
    (h2 : ∀ j, j < i.size → (cell w.heap (a.add j)).isSome = true ∧ froz w.heap (a.add j) = false) :
    ∃ w', (storeVar t a (.agg cs)).run P w = .ok () w' ∧ Same w w' ∧ w'.heap = setcs w.heap a cs.toList 0 := by
  obtain ⟨w', hr, hs, hh⟩ := run_storeCells_setcs (P := P) a cs.toList 0 w h1 (fun j hj => by
    rw [Nat.zero_add]; exact h2 j (by rw [← hn]; simpa using hj))
  exact ⟨w', by simp [storeVar, run_size hτ h, hn, Value.cells, hr], hs, hh⟩
end Go.Sx
