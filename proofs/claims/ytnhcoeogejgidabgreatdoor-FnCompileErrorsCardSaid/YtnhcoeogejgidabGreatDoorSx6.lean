/- opI_sound: all operations. -/
import Derived.Test.YtnhcoeogejgidabGreatDoorSx5
set_option linter.unusedSectionVars false
namespace Go.Sx
variable [Mode]
variable {P : Program} {τ : Static}

theorem SEMN.asT {s : Sem Next} {K : Value → Heap → Prop} {h : Heap} {t : Nat} (H : SEMN P s (fun v h => asT τ t v fun v => K v h) h) : SEMN P s K h :=
  SEMN.mono (fun _ _ h => asT_out h) H

theorem wrap64_eq (n : Int) : IntKind.i64.wrap n = if n % 18446744073709551616 ≥ 9223372036854775808 then n % 18446744073709551616 - 18446744073709551616 else n % 18446744073709551616 := by
  show (if (true && decide (n % 2 ^ 64 ≥ 2 ^ 63)) = true then n % 2 ^ 64 - 2 ^ 64 else n % 2 ^ 64) = _
  simp
theorem wrap64_pos (n : Int) (h0 : 0 ≤ n) (h1 : n ≤ 9223372036854775807) : IntKind.i64.wrap n = n := by
  rw [wrap64_eq]
  omega

theorem opI_sound (hτ : OkS P τ) (o : Oper) (ev : Operand → Value) (K : Value → Heap → Prop) (h : Heap) (H : opI P τ o ev K h) : SEMN P (execOp ev o) K h := by
  have hop := H
  unfold opI at H
  unfold execOp
  split at H
  · rename_i x e; rw [e]; exact semn_pure H
  · rename_i x e; rw [e]; exact semn_pure H
  · rename_i c a b e; rw [e]
    simp only []
    split at H
    · rename_i t e2
      refine semn_val fun w hw => ⟨if t then ev a else ev b, w, by simp [asBool, e2], Same.refl w, ?_⟩
      rw [hw]
      cases t <;> exact H
    · exact H.elim
  · rename_i t e; rw [e]
    simp only []
    split at H
    · rename_i i hi
      cases hz : i.zero.isEmpty with
      | true => rw [hz] at H; exact H.elim
      | false =>
        rw [hz] at H
        obtain ⟨zv, hzv, hzr⟩ := run_zero hτ hi (by intro e0; rw [e0] at hz; cases hz)
        have hcz : zv.cells = ⟨i.zero⟩ := Array.toList_inj.1 hzv
        exact semn_v' fun w hw => ⟨_, _, by simp [Instr.alloc, hzr, newVar, newRow]; exact ⟨rfl, rfl⟩, alc_same w _, by rw [hw, hcz]; exact H⟩
    · exact H.elim
  · rename_i t x e; rw [e]
    exact semn_v' fun w hw => ⟨_, _, by simp [Instr.box, newVar, newRow]; exact ⟨rfl, rfl⟩, alc_same w _, by rw [hw]; exact H⟩
  · rename_i t parts e; rw [e]; exact opI_build hτ e hop
  · rename_i t len parts e; rw [e]; exact opI_buildSlice hτ e hop
  · rename_i t x e; rw [e]
    split at H
    · rename_i a e2
      refine semn_v' fun w hw => ?_
      rw [← hw] at H
      obtain ⟨v, hr, hk⟩ := LD_out (P := P) hτ H
      exact ⟨v, w, by simp [Instr.loadAt, e2, Instr.sureAddr, hr], Same.refl w, hk⟩
    · exact H.elim
  · rename_i t x y e; rw [e]
    simp only []
    split at H
    · rename_i a e2
      split at H
      · rename_i i hi
        have agg : ∀ cs, ev y = .agg cs → STA i.size h a cs (fun h => K undef h) → SEMN P (do Instr.storeAt t (ev x) (ev y); pure .skip) K h := by
          intro cs e3 ⟨s1, s2, s3, s4⟩
          refine semn_skip fun w hw => ?_
          rw [← hw] at s3 s4
          obtain ⟨w', hr, hs, hh⟩ := run_store_agg (P := P) hτ hi s1 s2 s3
          exact ⟨w', by simp [Instr.storeAt, e2, e3, Instr.sureAddr, hr], hs, by rw [hh]; exact s4⟩
        have one : (bif Nat.beq i.size 1 then OC (ev y) (ST1 h a (ev y) fun h => K undef h) else False) → SEMN P (do Instr.storeAt t (ev x) (ev y); pure .skip) K h := by
          intro H
          cases hb : Nat.beq i.size 1 with
          | false => rw [hb] at H; exact H.elim
          | true =>
            rw [hb] at H
            rw [Nat.beq_eq] at hb
            obtain ⟨c1, c2, s1, s2, s3⟩ := OC_out H
            refine semn_skip fun w hw => ?_
            rw [← hw] at s1 s2 s3
            exact ⟨w.setCell a (ev y), by simp [Instr.storeAt, e2, Instr.sureAddr, run_store_one hτ hi hb c1 c2 s1 s2], setCell_same w _ _, s3⟩
        split at H
        · split at H
          · rename_i cs e3; exact agg cs e3 H
          · exact H.elim
        · split at H
          · rename_i cs e3; exact agg cs e3 H
          · exact H.elim
        · exact one H
      · exact H.elim
    · exact H.elim
  · rename_i x e; rw [e]
    simp only []
    split at H
    · rename_i a e2; rw [e2]; exact semn_pure H
    · rename_i f a c e2; rw [e2]; exact semn_pure H
    · exact H.elim
  · rename_i op t x y u e; rw [e]
    refine bin_sound hτ H fun hr => ?_
    unfold CMP at hr
    refine SEMN.mono (fun v h hb => ?_) hr
    obtain ⟨b, rfl, hb'⟩ := asB_out hb
    exact hb'
  · rename_i op t x e; rw [e]; exact un_sound H
  · rename_i s d x e; rw [e]; exact conv_sound hτ H fun hr => SEMN.asT hr
  · rename_i fn a c e; rw [e]; exact semn_v (fun w _ => rfl) H
  · rename_i t l c e; rw [e]
    simp only []
    split at H
    · rename_i e' sz b z hi
      obtain ⟨d, h1, h2, h3⟩ := run_und hτ hi
      have hd : d = .slice e' := by cases d <;> simp_all [tyOf]
      subst hd
      split at H
      · rename_i i k1 l' k2 c' hj el ec
        obtain ⟨⟨b0, b1, b2, b3, b4⟩, H⟩ := H
        obtain ⟨j, j1, j2, j3, j4⟩ := run_info hτ hj
        obtain ⟨zv, hzv, hzr⟩ := run_zero hτ hj b4
        refine semn_v' fun w hw => ?_
        have hwl : IntKind.i64.wrap l' = l' := wrap64_pos l' b0 (by omega)
        have hwc : IntKind.i64.wrap c' = c' := wrap64_pos c' (by omega) b3
        have hcz : zv.cells = ⟨i.zero⟩ := Array.toList_inj.1 hzv
        have hneg : ¬ ((((c' < 0 || decide ((i.bytes : Int) * c' > 2 ^ 48)) || l' < 0) || l' > c') = true) := by
          simp only [Bool.or_eq_true, decide_eq_true_eq]
          omega
        refine ⟨.slice (some ⟨w.heap.size, 0, none⟩) l'.toNat c'.toNat, { w with heap := w.heap.push (.cells ((Array.range (c'.toNat * i.size)).map fun j => (⟨i.zero⟩ : Array Value)[j % (⟨i.zero⟩ : Array Value).size]!) e') }, ?_, alc_same w _, by rw [hw]; exact H⟩
        simp only [el, ec, Instr.makeSlice, Sem.run_bind, h3, Result.andThen_ok, asInt, asIntOf, Sem.run_pure, j4, j3, hwl, hwc]
        rw [if_neg hneg]
        simp only [Sem.run_bind, run_askRoom, Result.andThen_ok, run_size hτ hj]
        by_cases h0 : c'.toNat * i.size = 0
        · rw [if_pos h0]
          simp only [pure_bind]
          rw [h0, Array.range_zero']
          simp only [List.map_toArray, List.map_nil]
          rfl
        · rw [if_neg h0]
          simp only [Sem.run_bind, hzr, Result.andThen_ok, pure_bind, hcz]
          rfl
      · exact H.elim
    · exact H.elim
  · rename_i t x lo hi mx e; rw [e]; exact slice_sound hτ H
  · rename_i t x e; rw [e]
    simp only []
    split at H
    · rename_i n e' sz b z bb len cap hi e2
      obtain ⟨d, h1, h2, h3⟩ := run_und hτ hi
      have hd : d = .array n e' := by cases d <;> simp_all [tyOf]
      subst hd
      unfold AAP at H
      split at H
      · obtain ⟨b0, H⟩ := H
        exact semn_v (fun w _ => by simp [Instr.arrayAt, e2, h3, show ¬ len < n by omega]) H
      · exact H.elim
    · exact H.elim
  · rename_i t x i e; rw [e]
    simp only []
    split at H
    · rename_i a fs n b z e2 hi
      obtain ⟨d, h1, h2, h3⟩ := run_und hτ hi
      obtain ⟨flds, rfl, hfl⟩ : ∃ flds : Array Field, d = .struct flds ∧ flds.toList.map (fun f => (f.type, f.offset)) = fs := by
        cases d <;> simp_all [tyOf]
      split at H
      · rename_i u off hf
        split at H
        · rename_i j hj
          cases hb : Nat.beq j.size 0 with
          | true => rw [hb] at H; exact H.elim
          | false =>
            rw [hb] at H
            have hne : j.size ≠ 0 := by intro h0; rw [h0] at hb; cases hb
            rw [← hfl, List.getElem?_map, Array.getElem?_toList] at hf
            obtain ⟨f, hf1, hf2⟩ := Option.map_eq_some_iff.1 hf
            obtain ⟨rfl, rfl⟩ := Prod.mk.inj hf2
            refine semn_v (fun w _ => ?_) H
            simp [Instr.fieldAt, h3, hf1, e2, Instr.sureAddr, fieldPlace, run_size hτ hj, hne]
        · exact H.elim
      · exact H.elim
    · exact H.elim
  · rename_i t x i e; rw [e]
    simp only []
    split at H
    · rename_i cs fs n b z e2 hi
      obtain ⟨d, h1, h2, h3⟩ := run_und hτ hi
      obtain ⟨flds, rfl, hfl⟩ : ∃ flds : Array Field, d = .struct flds ∧ flds.toList.map (fun f => (f.type, f.offset)) = fs := by
        cases d <;> simp_all [tyOf]
      split at H
      · rename_i u off hf
        rw [← hfl, List.getElem?_map, Array.getElem?_toList] at hf
        obtain ⟨f, hf1, hf2⟩ := Option.map_eq_some_iff.1 hf
        obtain ⟨rfl, rfl⟩ := Prod.mk.inj hf2
        refine semn_v' fun w hw => ?_
        obtain ⟨v, hr, hk⟩ := GT_out (P := P) (w := w) hτ H
        exact ⟨v, w, by simp [Instr.field, h3, hf1, e2, asAgg, hr], Same.refl w, by rw [hw]; exact hk⟩
      · exact H.elim
    · exact H.elim
  · rename_i t x i e; rw [e]
    simp only []
    split at H
    · rename_i n e' sz b z a k ix hi e2 e3
      obtain ⟨d, h1, h2, h3⟩ := run_und hτ hi
      have hd : d = .array n e' := by cases d <;> simp_all [tyOf]
      subst hd
      split at H
      · rename_i j hj
        obtain ⟨⟨b0, b1⟩, H⟩ := H
        exact semn_v (fun w _ => by simp [Instr.indexAt, e2, e3, asIntOf, h3, Instr.sureAddr, b0, b1, run_size hτ hj]) H
      · exact H.elim
    · rename_i e' sz b z a len cap k ix hi e2 e3
      obtain ⟨d, h1, h2, h3⟩ := run_und hτ hi
      have hd : d = .slice e' := by cases d <;> simp_all [tyOf]
      subst hd
      split at H
      · rename_i j hj
        unfold IDXS at H
        split at H
        · rename_i ad
          obtain ⟨⟨b0, b1⟩, H⟩ := H
          exact semn_v (fun w _ => by simp [Instr.indexAt, e2, e3, asIntOf, h3, b0, b1, run_size hτ hj]) H
        · exact H.elim
      · exact H.elim
    · exact H.elim
  · rename_i t x i e; rw [e]
    simp only []
    split at H
    · rename_i n e' sz b z cs k ix hi e2 e3
      obtain ⟨d, h1, h2, h3⟩ := run_und hτ hi
      have hd : d = .array n e' := by cases d <;> simp_all [tyOf]
      subst hd
      split at H
      · rename_i j hj
        obtain ⟨⟨b0, b1⟩, H⟩ := H
        refine semn_v' fun w hw => ?_
        obtain ⟨v, hr, hk⟩ := GT_out (P := P) (w := w) hτ H
        exact ⟨v, w, by simp [Instr.index, e2, e3, asIntOf, h3, b0, b1, run_size hτ hj, hr], Same.refl w, by rw [hw]; exact hk⟩
      · exact H.elim
    · rename_i sz b z s k ix hi e2 e3
      obtain ⟨d, h1, h2, h3⟩ := run_und hτ hi
      have hd : d = .string := by cases d <;> simp_all [tyOf]
      subst hd
      obtain ⟨⟨b0, b1⟩, H⟩ := H
      refine semn_v (fun w _ => ?_) H
      have hlt : ix.toNat < s.size := by omega
      simp [Instr.index, e2, e3, asIntOf, h3, b0, byteAt, hlt]
    · exact H.elim
  · rename_i x i e; rw [e]
    simp only []
    split at H
    · rename_i vs e2
      split at H
      · rename_i v hv
        refine semn_v (fun w _ => ?_) H
        rw [Array.getElem?_toList] at hv
        simp [Instr.extract, e2, hv]
      · exact H.elim
    · exact H.elim
  · rename_i c e; rw [e]
    simp only []
    split at H
    · rename_i f ec
      unfold CALLD at H
      split at H
      · rename_i g first cap ef
        have : (do let d ← resolve ev c o.type; invoke d.target d.args) = callFunc g (first ++ c.args.map ev ++ cap) := by
          simp [resolve, ec, ef, Deferred.ofValue, invoke]
        rw [this]
        exact SEMN.asT H
      · have : (do let d ← resolve ev c o.type; invoke d.target d.args) = (do let d ← Deferred.ofValue (ev f) (c.args.map ev); invoke d.target d.args) := by
          simp [resolve, ec]
        rw [this]
        exact SEMN.asT H
    · rename_i ec
      have hres : (do let d ← resolve ev c o.type; invoke d.target d.args) = builtin .len c.argTypes o.type (c.args.map fun | .const _ => true | _ => false) (c.args.map ev) := by
        simp [resolve, ec, invoke]
        rfl
      rw [hres]
      split at H
      · rename_i x t ea et
        have ha : c.args.map ev = #[ev x] := by
          apply Array.toList_inj.1
          simp [ea]
        have ht : c.argTypes = #[t] := Array.toList_inj.1 (by simp [et])
        split at H
        · rename_i sz b z s hi e2
          obtain ⟨d, h1, h2, h3⟩ := run_und hτ hi
          have hd : d = .string := by cases d <;> simp_all [tyOf]
          subst hd
          exact semn_v (fun w _ => by simp [ha, ht, e2, Builtin.len_, h3, goInt]) H
        · rename_i e' sz b z a n cap hi e2
          obtain ⟨d, h1, h2, h3⟩ := run_und hτ hi
          have hd : d = .slice e' := by cases d <;> simp_all [tyOf]
          subst hd
          exact semn_v (fun w _ => by simp [ha, ht, e2, Builtin.len_, h3, goInt]) H
        · rename_i n e' sz b z hi
          obtain ⟨d, h1, h2, h3⟩ := run_und hτ hi
          have hd : d = .array n e' := by cases d <;> simp_all [tyOf]
          subst hd
          exact semn_v (fun w _ => by simp [ha, ht, Builtin.len_, h3, goInt]) H
        · exact SEMN.asT H
      · exact H.elim
    · rename_i b hb ec
      have hres : (do let d ← resolve ev c o.type; invoke d.target d.args) = builtin b c.argTypes o.type (c.args.map fun | .const _ => true | _ => false) (c.args.map ev) := by
        simp [resolve, ec, invoke]
        rfl
      rw [hres]
      exact SEMN.asT H
    · unfold execOp at H
      rw [e] at H
      exact H
  · have hx : SEMN P (execOp ev o) K h := SEMN.asT H
    unfold execOp at hx
    exact hx
end Go.Sx
