/- The law FnExactTornSamples: it answers true. -/
import Derived.Test.YthpodhdhpepfbaaLc4
namespace Go.Sx
open Go.Proofs
set_option linter.unusedVariables false
set_option linter.unusedSimpArgs false

theorem samples_len (k : Int) : ∀ (n : Nat) (ys : List Int), (samples k n ys).length ≤ n
  | 0, ys => Nat.le_refl _
  | n + 1, ys => by
    rw [samples]
    split
    · have := samples_len k n (ys.drop (width k).toNat)
      simp; exact this
    · exact Nat.zero_le _
theorem torn_len {xs : List Int} (hb : Byt xs) : (torn xs).1.length ≤ 4096 := by
  unfold torn
  split
  · exact Nat.zero_le _
  · split
    · next h => 
      have := okHead_out h hb
      have := samples_len (kindOf xs) (countOf xs).toNat (xs.drop 12)
      show (samples _ _ _).length ≤ 4096
      omega
    · exact Nat.zero_le _
theorem Own.bytes {g : Nat} {xs : List Int} (h : xs.length ≤ 1048576) : Own [(g, T_uint8, ⟨iv .u8 xs⟩)] T_uint8 1 (some ⟨g, 0, none⟩) xs.length xs.length (iv .u8 xs) := by
  have := Own.one (g := g) (e := T_uint8) (sz := 1) (l := xs.length) (c := xs.length) (cs := ⟨iv .u8 xs⟩) (Nat.le_refl _) (by simp [maxLen]; omega) (by simp [iv])
  simpa [iv, List.take_of_length_le] using this
theorem FlS.own {h0 h h' : Heap} {L : List Blk} (M : Mem h0 h L) {b : Option Addr} {l c : Nat} {ns : List Nat} (F : FlS h h' [] b l c ns) :
    ∃ (B : List Blk) (fs : List Nat), Own B T_float32 1 b l c (fv .f32 fs) ∧ fs.map (cn .f32) = ns ∧ fs.length = l ∧ l = ns.length ∧ Mem h0 h' (B ++ L) := by
  obtain ⟨fs, S, hf⟩ := F
  obtain ⟨B, O, M'⟩ := (S.join M).own
  have hl := O.len1
  rw [fv_len] at hl
  exact ⟨B, fs, O, hf, hl, by rw [← hf, List.length_map, hl], by simpa using M'⟩
theorem FnExactTornSamples_c {h : Heap} {b : Option Addr} {l c : Nat} {xs : List Int} (C : Cells h b (iv .u8 xs)) (hl : xs.length = l) (hb : Byt xs) :
    CALL prg f_laws_FnExactTornSamples #[.slice b l c] (fun u h' => u = .bool true ∧ Ext h h') h := by
  subst hl
  refine laws_FnExactTornSamples.call ?_
  refine brf (fun hc => ?_) fun hc => ⟨rfl, Ext.refl _⟩
  have hm : xs.length ≤ 1048576 := by omega
  have ht := torn_len hb
  refine (toByteS_c C hm).mono ?_
  rintro _ h1 ⟨g1, rfl, M1⟩
  refine as_l ?_
  refine (spec_TornSamples_c ((Own.bytes hm).cells M1 (.refl _)) rfl (Nat.le_refl _) hb hm).mono ?_
  rintro _ h2 ⟨wb, wl, wc, rfl, F2⟩
  obtain ⟨Bw, ws, Ow, hws, hwl, hwn, M2⟩ := FlS.own M1.drop F2
  rw [List.append_nil] at M2
  refine tup2 (as_l (as_i ?_))
  refine (toByteS_c (C.ext M2.ext) hm).mono ?_
  rintro _ h3 ⟨gx, rfl, N3⟩
  have M3 := M2.join N3
  refine as_l ?_
  refine (impl_TornSamples_c ((Own.bytes hm).cells N3 (.refl _)) rfl (Nat.le_refl _) hb hm).mono ?_
  rintro _ h4 ⟨gb, gl, gc, rfl, F4⟩
  obtain ⟨Bg, gs, Og, hgs, hgl, hgn, M4⟩ := FlS.own M3 F4
  refine tup2 (as_l (as_i ?_))
  refine (eqFloat32S_c (Og.cells M4 (by repeat (first | exact List.Sublist.refl _ | exact List.sublist_append_left _ _ | refine List.Sublist.trans ?_ (List.sublist_append_right _ _)))) (Ow.cells M4 (by repeat (first | exact List.Sublist.refl _ | exact List.sublist_append_left _ _ | refine List.Sublist.trans ?_ (List.sublist_append_right _ _)))) hgl hwl (by rw [hgs, hws]) (by omega)).mono ?_
  rintro _ h5 ⟨rfl, x5⟩
  have M5 := M4.grow x5
  refine as_b (br_f rfl (br_f (by simp) ?_))
  unfold laws_FnExactTornSamples.J8
  refine (toByteS_c (C.ext M5.ext) hm).mono ?_
  rintro _ h6 ⟨gy, rfl, N6⟩
  have M6 := M5.join N6
  refine as_l ?_
  have Ox := Own.bytes (g := gx) hm
  refine (eqByteS_c (Ox.cells M6 (by repeat (first | exact List.Sublist.refl _ | exact List.sublist_append_left _ _ | refine List.Sublist.trans ?_ (List.sublist_append_right _ _)))) ((Own.bytes (g := gy) hm).cells N6 (.refl _)) rfl rfl (by omega)).mono ?_
  rintro _ h7 ⟨rfl, x7⟩
  have M7 := ((M6.grow x7).drop).perm (L' := [(gx, T_uint8, ⟨iv .u8 xs⟩)] ++ (Bg ++ Bw)) (by
    simp [List.perm_middle])
  refine as_b (br_f rfl ?_)
  refine (markByteS_c (k := 1) Ox M7 (by omega) (by omega)).mono ?_
  rintro _ h8 ⟨rfl, Bx, vx, Ox', M8⟩
  refine as_i (br_f (decide_eq_false (by omega)) ?_)
  refine (eqFloat32S_c (Og.cells M8 (by repeat (first | exact List.Sublist.refl _ | exact List.sublist_append_left _ _ | refine List.Sublist.trans ?_ (List.sublist_append_right _ _)))) (Ow.cells M8 (by repeat (first | exact List.Sublist.refl _ | exact List.sublist_append_left _ _ | refine List.Sublist.trans ?_ (List.sublist_append_right _ _)))) hgl hwl (by rw [hgs, hws]) (by omega)).mono ?_
  rintro _ h9 ⟨rfl, x9⟩
  have M9 : Mem h h9 (Bg ++ Bw) := (M8.grow x9).sub (by repeat (first | exact List.Sublist.refl _ | exact List.sublist_append_left _ _ | refine List.Sublist.trans ?_ (List.sublist_append_right _ _)))
  refine as_b (br_f rfl (br_f (by simp) ?_))
  unfold laws_FnExactTornSamples.J14
  refine (markFloat32S_c (k := 1) Og M9 (by omega) (by omega)).mono ?_
  rintro _ h10 ⟨rfl, Bm, Om, M10⟩
  refine as_i ?_
  refine (heldFloat32S_c (k := 1) (Om.cells M10 (by repeat (first | exact List.Sublist.refl _ | exact List.sublist_append_left _ _ | refine List.Sublist.trans ?_ (List.sublist_append_right _ _)))) (by omega) (by omega)).mono ?_
  rintro _ h11 ⟨rfl, x11⟩
  have M11 := M10.grow x11
  refine as_i (br_f (decide_eq_false (by omega)) (br_f (by simp) ?_))
  refine (toByteS_c (C.ext M11.ext) hm).mono ?_
  rintro _ h12 ⟨gz, rfl, N12⟩
  have M12 := M11.join N12
  refine as_l ?_
  refine (impl_TornSamples_c ((Own.bytes hm).cells N12 (.refl _)) rfl (Nat.le_refl _) hb hm).mono ?_
  rintro _ h13 ⟨vb, vl, vc, rfl, F13⟩
  obtain ⟨Bv, vs, Ov, hvs, hvl, hvn, M13⟩ := FlS.own M12 F13
  refine tup2 (as_l (as_i ?_))
  refine (eqFloat32S_c (Ov.cells M13 (by repeat (first | exact List.Sublist.refl _ | exact List.sublist_append_left _ _ | refine List.Sublist.trans ?_ (List.sublist_append_right _ _)))) (Ow.cells M13 (by repeat (first | exact List.Sublist.refl _ | exact List.sublist_append_left _ _ | refine List.Sublist.trans ?_ (List.sublist_append_right _ _)))) hvl hwl (by rw [hvs, hws]) (by omega)).mono ?_
  rintro _ h14 ⟨rfl, x14⟩
  have M14 := M13.grow x14
  refine as_b (br_f rfl (br_f (by simp) ?_))
  refine (heldFloat32S_c (k := 1) (Om.cells M14 (by repeat (first | exact List.Sublist.refl _ | exact List.sublist_append_left _ _ | refine List.Sublist.trans ?_ (List.sublist_append_right _ _)))) (by omega) (by omega)).mono ?_
  rintro _ h15 ⟨rfl, x15⟩
  exact as_i (br_f (decide_eq_false (by omega)) (br_f (by simp) ⟨rfl, (M14.grow x15).ext⟩))
end Go.Sx
