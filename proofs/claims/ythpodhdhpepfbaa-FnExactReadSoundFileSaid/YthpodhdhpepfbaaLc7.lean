/- The law FnExactMakeSoundFile: it answers true. -/
import Derived.Test.YthpodhdhpepfbaaLc6
namespace Go.Sx
open Go.Proofs
set_option linter.unusedVariables false
set_option linter.unusedSimpArgs false

theorem toFloat32S_c {h : Heap} {b : Option Addr} {c : Nat} {xs : List Nat} (C : Cells h b (fv .f32 xs)) (hx : xs.length ≤ 1048576) :
    CALL prg f_laws_toFloat32S #[.slice b xs.length c] (fun u h' => ∃ g, u = .slice (some ⟨g, 0, none⟩) xs.length xs.length ∧ Mem h h' [(g, T_float32, ⟨fv .f32 xs⟩)]) h := by
  refine laws_toFloat32S.call ?_
  refine mks1 (Mem.start h) rfl rfl (by show 4 * xs.length ≤ 2 ^ 48; omega) (by omega) fun g h1 _ M => ?_
  refine loop (fun x hh => ∃ n : Nat, x = (b, xs.length, c, some ⟨g, 0, none⟩, xs.length, xs.length, (n : Int)) ∧ n ≤ xs.length ∧
    Mem h hh [(g, T_float32, ⟨fv .f32 (xs.take n ++ List.replicate (xs.length - n) 0)⟩)]) (fun x => (xs.length - x.2.2.2.2.2.2).toNat) ⟨0, rfl, by omega, by simpa [fv] using M⟩ ?_
  rintro x hh ⟨n, rfl, hn, M⟩
  refine brd (fun hc => ?_) fun hc => ?_
  · have C' := C.ext M.ext
    obtain ⟨a, rfl⟩ := C'.base (by simp [fv]; omega)
    refine idxs (by omega) (by omega) ?_
    simp only [Int.toNat_natCast, Nat.mul_one]
    refine o_f (C'.get (fv_get (by omega))) ?_
    refine idxs (by omega) (by omega) ?_
    simp only [add_none, Nat.zero_add]
    refine M.st1 (by repeat constructor) (by simp [fv]; omega) (by repeat constructor) fun h' M => ?_
    refine ⟨⟨n + 1, by rw [wrap64_succ (by omega)], by omega, ?_⟩, by rw [wrap64_succ (by omega)]; show _ < _; simp; omega⟩
    have e : (⟨fv .f32 (xs.take n ++ List.replicate (xs.length - n) 0)⟩ : Array Value).setIfInBounds n (.float .f32 xs[n]) = ⟨fv .f32 (xs.take (n + 1) ++ List.replicate (xs.length - (n + 1)) 0)⟩ := by
      rw [← copy_step (b := xs) rfl (by omega)]
      simp [fv]
    rw [e] at M
    exact M
  · obtain rfl : n = xs.length := by omega
    refine ⟨g, rfl, ?_⟩
    rw [show xs.take xs.length ++ List.replicate (xs.length - xs.length) 0 = xs by simp] at M
    exact M
/-- The marks that a law leaves in a slice of bytes. -/
def marksB (k l : Nat) : List Int := (List.range l).map fun i => IntKind.u8.wrap ((k + i : Nat) : Int)
theorem marksB_get {k l i : Nat} (h : i < l) : (iv .u8 (marksB k l))[i]? = some (.int .u8 (IntKind.u8.wrap ((k + i : Nat) : Int))) := by simp [iv, marksB, h]
theorem markByteS_c' {h0 h : Heap} {B L : List Blk} {b : Option Addr} {l c k : Nat} {vs : List Value} (O : Own B T_uint8 1 b l c vs) (M : Mem h0 h (B ++ L)) (hm : l ≤ 1073741824) (hk : k ≤ 1073741824) :
    CALL prg f_laws_markByteS #[.slice b l c, .int .i64 (k : Int)] (fun u h' => u = .int .i64 ((k + l : Nat) : Int) ∧ ∃ B', Own B' T_uint8 1 b l c (iv .u8 (marksB k l)) ∧ Mem h0 h' (B' ++ L)) h := by
  refine laws_markByteS.call ?_
  refine loop (fun x hh => ∃ (n : Nat) (B' : List Blk) (vs' : List Value), x = (b, l, c, ((k + n : Nat) : Int), (n : Int)) ∧ n ≤ l ∧ Own B' T_uint8 1 b l c vs' ∧ Mem h0 hh (B' ++ L) ∧ ∀ i, i < n → vs'[i]? = (iv .u8 (marksB k l))[i]?) (fun x => (l - x.2.2.2.2).toNat) ⟨0, B, vs, rfl, by omega, O, M, fun i hi => by omega⟩ ?_
  rintro x hh ⟨n, B', vs', rfl, hn, O, M, hv⟩
  refine brd (fun hc => ?_) fun hc => ?_
  · obtain ⟨g, rfl⟩ := O.base (by omega)
    refine idxs (by omega) (by omega) ?_
    rw [Int.toNat_natCast, Nat.mul_one, add_none, Nat.zero_add]
    refine O.st1 M (by omega) fun B'' h' O' M' => ?_
    rw [wrap64_succ (by omega), wrap64_succ (by omega)]
    refine ⟨⟨n + 1, B'', _, rfl, by omega, O', M', fun i hi => ?_⟩, by show ((l : Int) - ((n + 1 : Nat) : Int)).toNat < ((l : Int) - (n : Int)).toNat; omega⟩
    have := O.len1
    by_cases e : n = i
    · subst e
      rw [List.getElem?_set_self (by omega), marksB_get (by omega)]
    · rw [List.getElem?_set_ne e]; exact hv i (by omega)
  · obtain rfl : n = l := by omega
    have : vs' = iv .u8 (marksB k n) := by
      apply List.ext_getElem?
      intro i
      by_cases hi : i < n
      · exact hv i hi
      · rw [List.getElem?_eq_none (by rw [O.len1]; omega), List.getElem?_eq_none (by simp [iv, marksB]; omega)]
    subst this
    exact ⟨rfl, B', O, M⟩
theorem heldByteS_c {h : Heap} {b : Option Addr} {l c k : Nat} (C : Cells h b (iv .u8 (marksB k l))) (hm : l ≤ 1073741824) (hk : k ≤ 1073741824) :
    CALL prg f_laws_heldByteS #[.slice b l c, .int .i64 (k : Int)] (fun u h' => u = .int .i64 ((k + l : Nat) : Int) ∧ Ext h h') h := by
  refine laws_heldByteS.call ?_
  refine loop (fun x hh => ∃ n : Nat, x = (b, l, c, ((k + n : Nat) : Int), (n : Int)) ∧ n ≤ l ∧ hh = h) (fun x => (l - x.2.2.2.2).toNat) ⟨0, rfl, by omega, rfl⟩ ?_
  rintro x hh ⟨n, rfl, hn, rfl⟩
  refine brd (fun hc => ?_) fun hc => ?_
  · obtain ⟨a, rfl⟩ := C.base (by simp [iv, marksB]; omega)
    refine idxs (by omega) (by omega) ?_
    rw [Int.toNat_natCast, Nat.mul_one]
    refine o_i (C.get (marksB_get (by omega))) (br_f (by simp) ?_)
    rw [wrap64_succ (by omega), wrap64_succ (by omega)]
    exact ⟨⟨n + 1, rfl, by omega, rfl⟩, by show ((l : Int) - ((n + 1 : Nat) : Int)).toNat < ((l : Int) - (n : Int)).toNat; omega⟩
  · obtain rfl : n = l := by omega
    exact ⟨rfl, Ext.refl _⟩
theorem Own.floats {g : Nat} {xs : List Nat} (h : xs.length ≤ 1048576) : Own [(g, T_float32, ⟨fv .f32 xs⟩)] T_float32 1 (some ⟨g, 0, none⟩) xs.length xs.length (fv .f32 xs) := by
  have := Own.one (g := g) (e := T_float32) (sz := 1) (l := xs.length) (c := xs.length) (cs := ⟨fv .f32 xs⟩) (Nat.le_refl _) (by simp [maxLen]; omega) (by simp [fv])
  simpa [fv, List.take_of_length_le] using this
theorem BlS.own {h0 h h' : Heap} {L : List Blk} (M : Mem h0 h L) {b : Option Addr} {l c : Nat} {xs : List Int} (F : BlS h h' [] b l c xs) :
    ∃ B : List Blk, Own B T_uint8 1 b l c (iv .u8 xs) ∧ l = xs.length ∧ Mem h0 h' (B ++ L) := by
  obtain ⟨B, O, M'⟩ := (Sl.join M F).own
  have hl := O.len1
  rw [iv_len] at hl
  exact ⟨B, O, hl.symm, by simpa using M'⟩
theorem makeFile_len (k rate : Int) (fs : List Nat) (h : fs.length ≤ 1048576) : (makeFile k rate fs).1.length ≤ 4194320 := by
  unfold makeFile
  split
  · exact Nat.zero_le _
  · split
    · have := file_len k rate fs
      show (fileOf k rate fs).length ≤ _
      omega
    · exact Nat.zero_le _
theorem FnExactMakeSoundFile_c {h : Heap} {b : Option Addr} {l c : Nat} {xs : List Nat} {k rate : Int} (C : Cells h b (fv .f32 xs)) (hl : xs.length = l) :
    CALL prg f_laws_FnExactMakeSoundFile #[.int .i64 k, .int .i64 rate, .slice b l c] (fun u h' => u = .bool true ∧ Ext h h') h := by
  subst hl
  refine laws_FnExactMakeSoundFile.call ?_
  refine brf (fun hc => ?_) fun hc => ⟨rfl, Ext.refl _⟩
  have hm : xs.length ≤ 1048576 := by omega
  have ht := makeFile_len k rate xs hm
  refine (toFloat32S_c C hm).mono ?_
  rintro _ h1 ⟨g1, rfl, M1⟩
  refine as_l ?_
  refine (spec_MakeSoundFile_c ((Own.floats hm).cells M1 (.refl _)) rfl hm).mono ?_
  rintro _ h2 ⟨wb, wl, wc, rfl, F2⟩
  obtain ⟨Bw, Ow, hwl, M2⟩ := BlS.own M1.drop F2
  rw [List.append_nil] at M2
  refine tup2 (as_l (as_i ?_))
  refine (toFloat32S_c (C.ext M2.ext) hm).mono ?_
  rintro _ h3 ⟨gx, rfl, N3⟩
  have M3 := M2.join N3
  refine as_l ?_
  refine (impl_MakeSoundFile_c ((Own.floats hm).cells N3 (.refl _)) rfl hm).mono ?_
  rintro _ h4 ⟨gb, gl, gc, rfl, F4⟩
  obtain ⟨Bg, Og, hgl, M4⟩ := BlS.own M3 F4
  refine tup2 (as_l (as_i ?_))
  refine (eqByteS_c (Og.cells M4 (by repeat (first | exact List.Sublist.refl _ | exact List.sublist_append_left _ _ | refine List.Sublist.trans ?_ (List.sublist_append_right _ _)))) (Ow.cells M4 (by repeat (first | exact List.Sublist.refl _ | exact List.sublist_append_left _ _ | refine List.Sublist.trans ?_ (List.sublist_append_right _ _)))) hgl.symm hwl.symm (by omega)).mono ?_
  rintro _ h5 ⟨rfl, x5⟩
  have M5 := M4.grow x5
  refine as_b (br_f rfl (br_f (by simp) ?_))
  unfold laws_FnExactMakeSoundFile.J8
  refine (toFloat32S_c (C.ext M5.ext) hm).mono ?_
  rintro _ h6 ⟨gy, rfl, N6⟩
  have M6 := M5.join N6
  refine as_l ?_
  have Ox := Own.floats (g := gx) hm
  refine (eqFloat32S_c (Ox.cells M6 (by repeat (first | exact List.Sublist.refl _ | exact List.sublist_append_left _ _ | refine List.Sublist.trans ?_ (List.sublist_append_right _ _)))) ((Own.floats (g := gy) hm).cells N6 (.refl _)) rfl rfl rfl (by omega)).mono ?_
  rintro _ h7 ⟨rfl, x7⟩
  have M7 := ((M6.grow x7).drop).perm (L' := [(gx, T_float32, ⟨fv .f32 xs⟩)] ++ (Bg ++ Bw)) (by
    simp [List.perm_middle])
  refine as_b (br_f rfl ?_)
  refine (markFloat32S_c (k := 1) Ox M7 (by omega) (by omega)).mono ?_
  rintro _ h8 ⟨rfl, Bx, Ox', M8⟩
  refine as_i (br_f (decide_eq_false (by omega)) ?_)
  refine (eqByteS_c (Og.cells M8 (by repeat (first | exact List.Sublist.refl _ | exact List.sublist_append_left _ _ | refine List.Sublist.trans ?_ (List.sublist_append_right _ _)))) (Ow.cells M8 (by repeat (first | exact List.Sublist.refl _ | exact List.sublist_append_left _ _ | refine List.Sublist.trans ?_ (List.sublist_append_right _ _)))) hgl.symm hwl.symm (by omega)).mono ?_
  rintro _ h9 ⟨rfl, x9⟩
  have M9 : Mem h h9 (Bg ++ Bw) := (M8.grow x9).sub (by repeat (first | exact List.Sublist.refl _ | exact List.sublist_append_left _ _ | refine List.Sublist.trans ?_ (List.sublist_append_right _ _)))
  refine as_b (br_f rfl (br_f (by simp) ?_))
  unfold laws_FnExactMakeSoundFile.J14
  refine (markByteS_c' (k := 1) Og M9 (by omega) (by omega)).mono ?_
  rintro _ h10 ⟨rfl, Bm, Om, M10⟩
  refine as_i ?_
  refine (heldByteS_c (k := 1) (Om.cells M10 (by repeat (first | exact List.Sublist.refl _ | exact List.sublist_append_left _ _ | refine List.Sublist.trans ?_ (List.sublist_append_right _ _)))) (by omega) (by omega)).mono ?_
  rintro _ h11 ⟨rfl, x11⟩
  have M11 := M10.grow x11
  refine as_i (br_f (decide_eq_false (by omega)) (br_f (by simp) ?_))
  refine (toFloat32S_c (C.ext M11.ext) hm).mono ?_
  rintro _ h12 ⟨gz, rfl, N12⟩
  have M12 := M11.join N12
  refine as_l ?_
  refine (impl_MakeSoundFile_c ((Own.floats hm).cells N12 (.refl _)) rfl hm).mono ?_
  rintro _ h13 ⟨vb, vl, vc, rfl, F13⟩
  obtain ⟨Bv, Ov, hvl, M13⟩ := BlS.own M12 F13
  refine tup2 (as_l (as_i ?_))
  refine (eqByteS_c (Ov.cells M13 (by repeat (first | exact List.Sublist.refl _ | exact List.sublist_append_left _ _ | refine List.Sublist.trans ?_ (List.sublist_append_right _ _)))) (Ow.cells M13 (by repeat (first | exact List.Sublist.refl _ | exact List.sublist_append_left _ _ | refine List.Sublist.trans ?_ (List.sublist_append_right _ _)))) hvl.symm hwl.symm (by omega)).mono ?_
  rintro _ h14 ⟨rfl, x14⟩
  have M14 := M13.grow x14
  refine as_b (br_f rfl (br_f (by simp) ?_))
  refine (heldByteS_c (k := 1) (Om.cells M14 (by repeat (first | exact List.Sublist.refl _ | exact List.sublist_append_left _ _ | refine List.Sublist.trans ?_ (List.sublist_append_right _ _)))) (by omega) (by omega)).mono ?_
  rintro _ h15 ⟨rfl, x15⟩
  exact as_i (br_f (decide_eq_false (by omega)) (br_f (by simp) ⟨rfl, (M14.grow x15).ext⟩))
end Go.Sx
