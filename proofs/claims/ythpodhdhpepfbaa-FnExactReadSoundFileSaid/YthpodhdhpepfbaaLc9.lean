/- The law FnExactReadSoundFile: it answers true. -/
import Derived.Test.YthpodhdhpepfbaaLc8
namespace Go.Sx
open Go.Proofs
set_option linter.unusedVariables false
set_option linter.unusedSimpArgs false

theorem readFile_len {xs : List Int} (hb : Byt xs) : (readFile xs).2.2.1.length ≤ 4096 := by
  unfold readFile
  split
  · exact Nat.zero_le _
  split
  · exact Nat.zero_le _
  next h =>
  split
  · exact Nat.zero_le _
  split
  · exact Nat.zero_le _
  split
  · exact Nat.zero_le _
  have := okHead_out (by simpa using h) hb
  have := samples_len (kindOf xs) (countOf xs).toNat (xs.drop 12)
  show (samples _ _ _).length ≤ 4096
  omega
theorem FnExactReadSoundFile_c {h : Heap} {b : Option Addr} {l c : Nat} {xs : List Int} (C : Cells h b (iv .u8 xs)) (hl : xs.length = l) (hb : Byt xs) :
    CALL prg f_laws_FnExactReadSoundFile #[.slice b l c] (fun u h' => u = .bool true ∧ Ext h h') h := by
  subst hl
  refine laws_FnExactReadSoundFile.call ?_
  refine brf (fun hc => ?_) fun hc => ⟨rfl, Ext.refl _⟩
  have hm : xs.length ≤ 1048576 := by omega
  have ht := readFile_len hb
  refine (toByteS_c C hm).mono ?_
  rintro _ h1 ⟨g1, rfl, M1⟩
  refine as_l ?_
  refine (spec_ReadSoundFile_c ((Own.bytes hm).cells M1 (.refl _)) rfl (Nat.le_refl _) hb hm).mono ?_
  rintro _ h2 ⟨wb, wl, wc, rfl, F2⟩
  obtain ⟨Bw, ws, Ow, hws, hwl, hwn, M2⟩ := FlS.own M1.drop F2
  rw [List.append_nil] at M2
  refine tup4 (as_i (as_i (as_l (as_i ?_))))
  refine (toByteS_c (C.ext M2.ext) hm).mono ?_
  rintro _ h3 ⟨gx, rfl, N3⟩
  have M3 := M2.join N3
  refine as_l ?_
  refine (impl_ReadSoundFile_c ((Own.bytes hm).cells N3 (.refl _)) rfl (Nat.le_refl _) hb hm).mono ?_
  rintro _ h4 ⟨gb, gl, gc, rfl, F4⟩
  obtain ⟨Bg, gs, Og, hgs, hgl, hgn, M4⟩ := FlS.own M3 F4
  refine tup4 (as_i (as_i (as_l (as_i ?_))))
  refine br_f (by simp) (br_f (by simp) ?_)
  refine (eqFloat32S_c (Og.cells M4 (by repeat (first | exact List.Sublist.refl _ | exact List.sublist_append_left _ _ | refine List.Sublist.trans ?_ (List.sublist_append_right _ _)))) (Ow.cells M4 (by repeat (first | exact List.Sublist.refl _ | exact List.sublist_append_left _ _ | refine List.Sublist.trans ?_ (List.sublist_append_right _ _)))) hgl hwl (by rw [hgs, hws]) (by omega)).mono ?_
  rintro _ h5 ⟨rfl, x5⟩
  have M5 := M4.grow x5
  refine as_b (br_f rfl (br_f (by simp) ?_))
  unfold laws_FnExactReadSoundFile.J8
  refine (toByteS_c (C.ext M5.ext) hm).mono ?_
  rintro _ h6 ⟨gy, rfl, N6⟩
  have M6 := M5.join N6
  refine as_l ?_
  have Ox := Own.bytes (g := gx) hm
  refine (eqByteS_c (Ox.cells M6 (by repeat (first | exact List.Sublist.refl _ | exact List.sublist_append_left _ _ | refine List.Sublist.trans ?_ (List.sublist_append_right _ _)))) ((Own.bytes (g := gy) hm).cells N6 (.refl _)) rfl rfl (by omega)).mono ?_
  rintro _ h7 ⟨rfl, x7⟩
  have M7 := ((M6.grow x7).drop).perm (L' := [(gx, T_uint8, ⟨iv .u8 xs⟩)] ++ (Bg ++ Bw)) (by
    simp [List.perm_middle])
  refine as_b (br_f rfl ?_)
  refine (markByteS_c (k := 1) Ox M7 (by omega) (by omega)).mono ?_
  rintro _ h8 ⟨rfl, Bx, vx, Ox', M8⟩
  refine as_i (br_f (decide_eq_false (by omega)) (br_f (by simp) (br_f (by simp) ?_)))
  refine (eqFloat32S_c (Og.cells M8 (by repeat (first | exact List.Sublist.refl _ | exact List.sublist_append_left _ _ | refine List.Sublist.trans ?_ (List.sublist_append_right _ _)))) (Ow.cells M8 (by repeat (first | exact List.Sublist.refl _ | exact List.sublist_append_left _ _ | refine List.Sublist.trans ?_ (List.sublist_append_right _ _)))) hgl hwl (by rw [hgs, hws]) (by omega)).mono ?_
  rintro _ h9 ⟨rfl, x9⟩
  have M9 : Mem h h9 (Bg ++ Bw) := (M8.grow x9).sub (by repeat (first | exact List.Sublist.refl _ | exact List.sublist_append_left _ _ | refine List.Sublist.trans ?_ (List.sublist_append_right _ _)))
  refine as_b (br_f rfl (br_f (by simp) ?_))
  unfold laws_FnExactReadSoundFile.J14
  refine (markFloat32S_c (k := 1) Og M9 (by omega) (by omega)).mono ?_
  rintro _ h10 ⟨rfl, Bm, Om, M10⟩
  refine as_i ?_
  refine (heldFloat32S_c (k := 1) (Om.cells M10 (by repeat (first | exact List.Sublist.refl _ | exact List.sublist_append_left _ _ | refine List.Sublist.trans ?_ (List.sublist_append_right _ _)))) (by omega) (by omega)).mono ?_
  rintro _ h11 ⟨rfl, x11⟩
  have M11 := M10.grow x11
  refine as_i (br_f (decide_eq_false (by omega)) (br_f (by simp) ?_))
  refine (toByteS_c (C.ext M11.ext) hm).mono ?_
  rintro _ h12 ⟨gz, rfl, N12⟩
  have M12 := M11.join N12
  refine as_l ?_
  refine (impl_ReadSoundFile_c ((Own.bytes hm).cells N12 (.refl _)) rfl (Nat.le_refl _) hb hm).mono ?_
  rintro _ h13 ⟨vb, vl, vc, rfl, F13⟩
  obtain ⟨Bv, vs, Ov, hvs, hvl, hvn, M13⟩ := FlS.own M12 F13
  refine tup4 (as_i (as_i (as_l (as_i ?_))))
  refine br_f (by simp) (br_f (by simp) ?_)
  refine (eqFloat32S_c (Ov.cells M13 (by repeat (first | exact List.Sublist.refl _ | exact List.sublist_append_left _ _ | refine List.Sublist.trans ?_ (List.sublist_append_right _ _)))) (Ow.cells M13 (by repeat (first | exact List.Sublist.refl _ | exact List.sublist_append_left _ _ | refine List.Sublist.trans ?_ (List.sublist_append_right _ _)))) hvl hwl (by rw [hvs, hws]) (by omega)).mono ?_
  rintro _ h14 ⟨rfl, x14⟩
  have M14 := M13.grow x14
  refine as_b (br_f rfl (br_f (by simp) ?_))
  refine (heldFloat32S_c (k := 1) (Om.cells M14 (by repeat (first | exact List.Sublist.refl _ | exact List.sublist_append_left _ _ | refine List.Sublist.trans ?_ (List.sublist_append_right _ _)))) (by omega) (by omega)).mono ?_
  rintro _ h15 ⟨rfl, x15⟩
  exact as_i (br_f (decide_eq_false (by omega)) (br_f (by simp) ⟨rfl, (M14.grow x15).ext⟩))
end Go.Sx
