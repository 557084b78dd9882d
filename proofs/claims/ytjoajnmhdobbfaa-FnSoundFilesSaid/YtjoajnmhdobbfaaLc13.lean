/- The law FnSoundFiles, as the program tells it: the whole. -/
import Derived.Test.YtjoajnmhdobbfaaLc12
namespace Go.Sx
set_option maxRecDepth 100000
set_option maxHeartbeats 1000000
open Go.Proofs Ieee
set_option linter.unusedVariables false
section
variable {h : Heap} {cb mb : Option Addr} {cc mc : Nat} {code more : List Int}
theorem make_eq {k rate : Int} {fs : List Nat} (H : Rd k rate fs) : makeFile k rate fs = (fileOf k rate fs, 0) := by
  have hn := H.n
  unfold makeFile
  rw [if_neg (by omega), H.k, H.r]; rfl
theorem sf11 {hh : Heap} {sb db : Option Addr} {sl sc dl dc : Nat} {Bs Bd L : List Blk} {rate : Int} {fs : List Nat} (G : Both h cb mb code more) (H : Rd 2 rate fs)
    (Os : Own Bs T_float32 1 sb sl sc (fv .f32 fs)) (Od : Own Bd T_uint8 1 db dl dc (iv .u8 (fileOf 2 rate fs))) (M : Mem h hh (Bs ++ (Bd ++ L))) :
    laws_FnSoundFiles.J11 (T1 h) cb code.length cc mb more.length mc sb sl sc rate db dl dc hh := by
  have hsl : fs.length = sl := by have := Os.len1; rwa [fv_len] at this
  have hn := H.n
  have H1 : Rd 1 rate fs := ⟨by decide, H.r, H.n, H.a⟩
  have hl1 := file_len' H1.k rate fs
  have hw : (width 1).toNat = 2 := by decide
  rw [hw] at hl1
  unfold laws_FnSoundFiles.J11
  refine (impl_MakeSoundFile_c (k := 1) (rate := rate) (Os.cells M (List.sublist_append_left _ _)) hsl (by omega)).mono ?_
  rintro _ h1 ⟨b1, l1, c1, rfl, F1⟩
  rw [make_eq H1] at F1 ⊢
  obtain ⟨B1, O1, el1, M1⟩ := BlS.own M F1
  have hle := O1.le
  have el1 : l1 = (fileOf 1 rate fs).length := el1
  refine tup2 (as_l (as_i ?_))
  refine (impl_ReadSoundFile_c (O1.cells M1 (List.sublist_append_left _ _)) el1.symm hle (file_byt 1 rate fs) (by omega)).mono ?_
  rintro _ h2 ⟨b2, l2, c2, rfl, F2⟩
  rw [read_file H1] at F2 ⊢
  obtain ⟨B2, ks, O2, ek, kl, kn, M2⟩ := FlS.own M1 F2
  have kn : l2 = fs.length := by rw [kn]; simp
  refine tup4 (as_i (as_i (as_l (as_i (br_f rfl (br_f rfl (br_f rfl (br_f (by simp) (br_f (by simp [kn, hsl]) (br_f ?_ ?_))))))))))
  · rw [wrap64 (n := 2 * (sl : Int)) (by omega) (by omega), wrap64 (by omega) (by omega), el1, hl1]
    simp
    omega
  · refine sf15 G H Os Od O2 ek ((M2.sub (L' := B2 ++ (Bs ++ (Bd ++ L))) ?_).perm ((List.perm_append_comm_assoc B2 Bs _).trans ((List.perm_append_comm_assoc B2 Bd _).append_left Bs)))
    exact (List.Sublist.refl _).append (List.sublist_append_right _ _)
theorem FnSoundFiles_c (C : Cells h cb (iv .u8 code)) (C2 : Cells h mb (iv .u8 more)) (hb : Byt code) (hb2 : Byt more) :
    CALL prg f_laws_FnSoundFiles #[.slice cb code.length cc, .slice mb more.length mc] (T1 h) h := by
  have G : Both h cb mb code more := ⟨C, C2, hb, hb2⟩
  refine laws_FnSoundFiles.call (f6big_c.mono ?_)
  rintro _ h1 ⟨rfl, x1⟩
  refine as_b (br (fun _ => ⟨rfl, x1⟩) fun hc1 => f6big_c.mono ?_)
  rintro _ h2 ⟨rfl, x2⟩
  refine as_b (br (fun _ => ⟨rfl, x1.trans x2⟩) fun hc2 => ?_)
  unfold laws_FnSoundFiles.J3
  have X := x1.trans x2
  refine (P6Samples_c (most := 20) (C.ext X) hb (by omega)).mono ?_
  rintro _ h3 ⟨sb, sl, sc, fs, Bs, rfl, Os, M0, hsl, hl, ha⟩
  refine as_l (brd (fun _ => ⟨rfl, X.trans M0.ext⟩) fun hc => ?_)
  have M : Mem h h3 (Bs ++ []) := by
    have := ((Mem.start h).grow X).join M0
    simpa using this
  refine (P6Pick_c M C2 hb2).mono ?_
  rintro _ h4 ⟨v, rfl, v1, v2, v3, M⟩
  have er : IntKind.i64.wrap (1 + v) = 1 + v := wrap64 (by omega) (by omega)
  refine as_i ?_
  rw [er]
  have H : Rd 2 (1 + v) fs := ⟨by decide, by unfold inR; simp; omega, by omega, ha⟩
  have hl2 := file_len' H.k (1 + v) fs
  have hw : (width 2).toNat = 4 := by decide
  rw [hw] at hl2
  refine (impl_MakeSoundFile_c (k := 2) (rate := 1 + v) (Os.cells M (List.sublist_append_left _ _)) hsl (by omega)).mono ?_
  rintro _ h5 ⟨b1, l1, c1, rfl, F1⟩
  rw [make_eq H] at F1 ⊢
  obtain ⟨B1, O1, el1, M1⟩ := BlS.own M F1
  have el1 : l1 = (fileOf 2 (1 + v) fs).length := el1
  refine tup2 (as_l (as_i ?_))
  refine (impl_ReadSoundFile_c (O1.cells M1 (List.sublist_append_left _ _)) el1.symm O1.le (file_byt 2 (1 + v) fs) (by omega)).mono ?_
  rintro _ h6 ⟨b2, l2, c2, rfl, F2⟩
  rw [read_file H] at F2 ⊢
  obtain ⟨B2, ks, O2, ek, kl, kn, M2⟩ := FlS.own M1 F2
  have kn : l2 = fs.length := by rw [kn]; simp
  refine tup4 (as_i (as_i (as_l (as_i (br_f rfl (br_f rfl (br_f rfl (br_f (by simp) ?_))))))))
  refine (SameReals_c (O2.cells M2 (List.sublist_append_left _ _)) (Os.cells M2 ((List.sublist_append_left _ _).trans ((List.sublist_append_right _ _).trans (List.sublist_append_right _ _)))) kl hsl (by rw [ek]; exact List.map_congr_left fun a _ => rfl) (by omega)).mono ?_
  rintro _ h7 ⟨rfl, x7⟩
  refine as_b (br_f rfl (br_f ?_ ?_))
  · rw [wrap64 (n := 4 * (sl : Int)) (by omega) (by omega), wrap64 (by omega) (by omega), el1, hl2]
    simp
    omega
  · have M3 := (M2.grow x7).sub (L' := B1 ++ (Bs ++ [])) (List.sublist_append_right _ _)
    exact sf11 G H Os O1 (M3.perm (List.perm_append_comm_assoc B1 Bs _))
end
end Go.Sx
