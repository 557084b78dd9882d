/- ReadSoundFile: what it computes. -/
import Derived.Test.YtjoajnmhdobbfaaLc7
import Derived.Test.YtjoajnmhdobbfaaG1
namespace Go.Sx
set_option maxRecDepth 100000
open Go.Proofs
set_option linter.unusedVariables false
set_option linter.unusedSimpArgs false

theorem isnan_eq (a : Nat) : isnan a = nan .f32 a := ne_self .f32 a
theorem bits_cn (a : Nat) : bits32 a = ((cn .f32 a : Nat) : Int) := by
  unfold bits32 cn
  rw [isnan_eq]
  split <;> rfl
theorem shortOf_cn (a : Nat) : shortOf (cn .f32 a) = shortOf a := by
  unfold shortOf
  rw [nan_canon]
  cases h : nan .f32 a with
  | true => rfl
  | false => rw [show cn .f32 a = a by unfold cn; rw [h]; rfl]
theorem encOf_cn (k : Int) (a : Nat) : encOf k (cn .f32 a) = encOf k a := by
  unfold encOf
  rw [shortOf_cn, bits_cn, bits_cn, canon_canon]
theorem flat_cn (k : Int) (fs : List Nat) : (fs.map (cn .f32)).flatMap (encOf k) = fs.flatMap (encOf k) := by
  induction fs with
  | nil => rfl
  | cons a fs ih => simp only [List.map_cons, List.flatMap_cons, ih, encOf_cn]
theorem file_cn (k rate : Int) (fs : List Nat) : fileOf k rate (fs.map (cn .f32)) = fileOf k rate fs := by
  unfold fileOf bodyOf
  rw [flat_cn, List.length_map]
theorem enc_len' {k : Int} (hk : inR k 1 2 = true) (a : Nat) : (encOf k a).length = (width k).toNat := by
  have : k = 1 ∨ k = 2 := by simp [inR] at hk; omega
  rcases this with rfl | rfl <;> simp [encOf, width, lb_len]
theorem flat_len' {k : Int} (hk : inR k 1 2 = true) : ∀ fs : List Nat, (fs.flatMap (encOf k)).length = fs.length * (width k).toNat
  | [] => by simp
  | a :: fs => by
    rw [List.flatMap_cons, List.length_append, flat_len' hk fs, enc_len' hk, List.length_cons, Nat.add_mul, Nat.one_mul, Nat.add_comm]
theorem file_len' {k : Int} (hk : inR k 1 2 = true) (rate : Int) (fs : List Nat) : (fileOf k rate fs).length = 16 + fs.length * (width k).toNat := by
  simp only [fileOf, bodyOf, List.length_append, List.length_cons, List.length_nil, lb_len, flat_len' hk]
  omega
theorem samples_full {k : Int} : ∀ {n : Nat} {ys : List Int}, n * (width k).toNat ≤ ys.length → (samples k n ys).length = n
  | 0, ys, _ => rfl
  | n + 1, ys, h => by
    rw [Nat.add_mul, Nat.one_mul] at h
    rw [samples, if_pos (by omega), List.length_cons, samples_full (by rw [List.length_drop]; omega)]
theorem samples_take {k : Int} (hk : inR k 1 2 = true) : ∀ {n m : Nat} {ys : List Int}, n * (width k).toNat ≤ m → m ≤ ys.length → samples k n (ys.take m) = samples k n ys
  | 0, m, ys, _, _ => rfl
  | n + 1, m, ys, h, h2 => by
    rw [Nat.add_mul, Nat.one_mul] at h
    have hw : (k = 1 ∧ (width k).toNat = 2) ∨ (k = 2 ∧ (width k).toNat = 4) := by
      have : k = 1 ∨ k = 2 := by simp [inR] at hk; omega
      rcases this with rfl | rfl
      · exact .inl ⟨rfl, rfl⟩
      · exact .inr ⟨rfl, rfl⟩
    rw [samples, samples, if_pos (by rw [List.length_take]; omega), if_pos (by omega), List.drop_take, samples_take hk (by omega) (by rw [List.length_drop]; omega)]
    congr 1
    unfold sampleOf
    rcases hw with ⟨rfl, h3⟩ | ⟨rfl, h3⟩
    · rw [if_pos rfl, if_pos rfl, List.take_take, Nat.min_eq_left (by omega)]
    · rw [if_neg (by decide), if_neg (by decide), List.take_take, Nat.min_eq_left (by omega)]
def readFile (xs : List Int) : Int × Int × List Nat × Int :=
  if 16400 < xs.length then (0, 0, [], 3) else if okHead xs = false then (0, 0, [], 5) else if (xs.length : Int) ≠ 16 + countOf xs * width (kindOf xs) then (0, 0, [], 5)
  else if (fileOf (kindOf xs) (rateOf xs) (samples (kindOf xs) (countOf xs).toNat (xs.drop 12))).take (xs.length - 4) ≠ xs.take (xs.length - 4) then (0, 0, [], 5)
  else if fileOf (kindOf xs) (rateOf xs) (samples (kindOf xs) (countOf xs).toNat (xs.drop 12)) ≠ xs then (0, 0, [], 8)
  else (kindOf xs, rateOf xs, samples (kindOf xs) (countOf xs).toNat (xs.drop 12), 0)
theorem file_byt (k rate : Int) (fs : List Nat) : Byt (fileOf k rate fs) := by
  intro x hx
  simp only [fileOf, bodyOf, List.mem_append, List.mem_flatMap, List.mem_cons, List.not_mem_nil, or_false] at hx
  have hl := fun n k => lb_byt n k x
  rcases hx with ((((h | h) | h) | h) | ⟨a, _, h⟩) | h
  · omega
  · omega
  · exact hl _ _ h
  · exact hl _ _ h
  · unfold encOf at h
    split at h <;> exact hl _ _ h
  · exact hl _ _ h
theorem bstr_ne {xs ys : List Int} (hx : Byt xs) (hy : Byt ys) : ((bstr xs).toList == (bstr ys).toList) = decide (xs = ys) := by
  rw [str_eq, decide_eq_decide]
  exact ⟨fun h => bstr_inj hx hy h, fun h => by rw [h]⟩
theorem bytesEqual_c {h : Heap} {b1 b2 : Option Addr} {l1 c1 l2 c2 : Nat} {xs ys : List Int} (C1 : Cells h b1 (iv .u8 xs)) (C2 : Cells h b2 (iv .u8 ys)) (hl1 : xs.length = l1) (hl2 : ys.length = l2) (hx : Byt xs) (hy : Byt ys) :
    CALL prg f_bytes_Equal #[.slice b1 l1 c1, .slice b2 l2 c2] (fun u h' => u = .bool (decide (xs = ys)) ∧ Ext h h') h := by
  refine bytes_Equal.call ?_
  refine bytes_str U_sl_uint8 U_uint8 U_string C1 hl1 (as_s ?_)
  refine bytes_str U_sl_uint8 U_uint8 U_string C2 hl2 (as_s ?_)
  exact ⟨by rw [bstr_ne hx hy], Ext.refl _⟩
theorem slA_zero (b : Option Addr) (c sz : Nat) : slA b c 0 sz = b := by
  unfold slA
  split
  · rfl
  · cases b <;> simp [Addr.add]
/-- The four results of reading a file. -/
def RdS (h h' : Heap) (u : Value) (r : Int × Int × List Nat × Int) : Prop := ∃ b l c, u = .tuple ⟨[.int .i64 r.1, .int .i64 r.2.1, .slice b l c, .int .i64 r.2.2.2]⟩ ∧ FlS h h' [] b l c r.2.2.1
theorem FlS.nil {h0 hh : Heap} {g : Nat} (M : Mem h0 hh [(g, T_float32, ⟨[]⟩)]) : FlS h0 hh [] (some ⟨g, 0, none⟩) 0 0 [] :=
  ⟨[], by simpa [fv] using Sl.made (sz := 1) (l := 0) (c := 0) M (Nat.le_refl _) (Nat.zero_le _) (by simp), rfl⟩
theorem FlS.nil' {h0 hh : Heap} (M : Mem h0 hh []) : FlS h0 hh [] none 0 0 [] := ⟨[], Sl.nil M, rfl⟩
theorem width_two {k : Int} (hk : inR k 1 2 = true) : width k = 2 ∨ width k = 4 := by
  have : k = 1 ∨ k = 2 := by simp [inR] at hk; omega
  rcases this with rfl | rfl <;> simp [width]
theorem len_wrap {n w : Int} (hn : 0 ≤ n ∧ n ≤ 4096) (hw : w = 2 ∨ w = 4) : IntKind.i64.wrap (16 + IntKind.i64.wrap (n * w)) = 16 + n * w := by
  have : 0 ≤ n * w ∧ n * w ≤ 16384 := by rcases hw with rfl | rfl <;> omega
  rw [wrap64 (n := n * w) (by omega) (by omega), wrap64 (by omega) (by omega)]
theorem toNat_mul {n w : Int} (hn : 0 ≤ n) (hw : w = 2 ∨ w = 4) : n.toNat * w.toNat = (n * w).toNat := by
  rcases hw with rfl | rfl <;> simp <;> omega
theorem spec_ReadSoundFile_c {h : Heap} {b : Option Addr} {l c : Nat} {xs : List Int} (C : Cells h b (iv .u8 xs)) (hl : xs.length = l) (hc : l ≤ c) (hb : Byt xs) (hm : l ≤ 1048576) :
    CALL prg f_spec_ReadSoundFile #[.slice b l c] (fun u h' => RdS h h' u (readFile xs)) h := by
  subst hl
  refine spec_ReadSoundFile.call ?_
  have bad : ∀ {hh : Heap} {r : Int}, Mem h hh [] → readFile xs = (0, 0, [], r) → ALC ⟨[]⟩ T_float32 (fun g h5 => RdS h h5 (.tuple ⟨[.int .i64 (0 : Int), .int .i64 (0 : Int), .slice (some ⟨g, 0, none⟩) 0 0, .int .i64 r]⟩) (readFile xs)) hh :=
    fun M e => M.alc fun g h5 _ M => by rw [e]; exact ⟨_, _, _, rfl, FlS.nil M⟩
  refine l10Long_c.mono ?_
  rintro _ h1 ⟨rfl, x1⟩
  refine brd (fun h2 => bad ((Mem.start h).grow x1) (by rw [readFile, if_pos h2])) fun h2 => ?_
  refine (l10Head_c (C.ext x1) rfl hc hb hm).mono ?_
  rintro _ h3 ⟨⟨k, r, n, rfl, hk⟩, x3⟩
  refine tup4 (as_i (as_i (as_i (as_b ?_))))
  have X3 := x1.trans x3
  refine br (fun h4 => ?_) fun h4 => ?_
  · have h4 : okHead xs = false := by simpa using h4
    exact bad ((Mem.start h).grow X3) (by rw [readFile, if_neg h2, if_pos h4])
  have h4 : okHead xs = true := by simpa using h4
  obtain ⟨rfl, rfl, rfl⟩ := hk h4
  obtain ⟨o1, o2, o3, o4⟩ := okHead_out h4 hb
  have o5 : inR (rateOf xs) 1 1000000 = true := by simp [okHead] at h4; exact h4.1.2
  refine (l10Width_c _).go fun h5 x5 => as_i ?_
  have X5 := X3.trans x5
  have hw := width_two o2
  rw [len_wrap ⟨o3, o4⟩ hw]
  refine br (fun h6 => ?_) fun h6 => ?_
  · exact bad ((Mem.start h).grow X5) (by rw [readFile, if_neg h2, if_neg (by rw [h4]; decide), if_pos (by simpa using h6)])
  have h6 : (xs.length : Int) = 16 + countOf xs * width (kindOf xs) := by simpa using h6
  have hcw := toNat_mul (n := countOf xs) o3 hw
  have hcp : 0 ≤ countOf xs * width (kindOf xs) := by rcases hw with e | e <;> (rw [e]; omega)
  unfold spec_ReadSoundFile.J6
  rw [wrap64 (n := (xs.length : Int) - 4) (by omega) (by omega)]
  have e4 : ((xs.length : Int) - 4).toNat = xs.length - 4 := by omega
  rw [e4, slA_zero]
  refine slb (by omega) (by omega) (by omega) ?_
  have Ct : Cells h b (iv .u8 (xs.take (xs.length - 4))) := by simpa [iv] using C.take (n := xs.length - 4)
  have lt : (xs.take (xs.length - 4)).length = xs.length - 4 - 0 := by simp
  refine (l10Samples_c (Ct.ext X5) lt (by omega) (hb.take _) (by omega) (by omega) o2 ⟨o3, o4⟩).mono ?_
  rintro _ h7 ⟨sb, sl, sc, rfl, fs, S, hf⟩
  have S := S.join ((Mem.start h).grow X5)
  rw [List.append_nil] at S
  have hsm : samples (kindOf xs) (countOf xs).toNat ((xs.take (xs.length - 4)).drop 12) = samples (kindOf xs) (countOf xs).toNat (xs.drop 12) := by
    rw [List.drop_take, samples_take o2 (by omega) (by rw [List.length_drop]; omega)]
  rw [hsm] at hf
  have hfl : fs.length = (countOf xs).toNat := by
    have := congrArg List.length hf
    rw [List.length_map, samples_full (by rw [List.length_drop]; omega)] at this
    exact this
  have hsl : fs.length = sl := by have := S.len1; rwa [fv_len] at this
  refine as_l ?_
  refine (l10File_c S.cells hsl (by omega) o2 o5).mono ?_
  rintro _ h8 ⟨fb, fc, rfl, S2⟩
  have hfile : fileOf (kindOf xs) (rateOf xs) fs = fileOf (kindOf xs) (rateOf xs) (samples (kindOf xs) (countOf xs).toNat (xs.drop 12)) := by rw [← hf, file_cn]
  have hflen : (fileOf (kindOf xs) (rateOf xs) fs).length = xs.length := by rw [file_len' o2, hfl, hcw]; omega
  have hfc : (fileOf (kindOf xs) (rateOf xs) fs).length ≤ fc := by
    obtain ⟨B, O, _⟩ := S2.own
    exact O.le
  refine as_l ?_
  rw [hflen, wrap64 (n := (xs.length : Int) - 4) (by omega) (by omega), e4, slA_zero]
  rw [hflen] at hfc S2
  refine slb (by omega) (by omega) (by omega) (slb (by omega) (by omega) (by omega) ?_)
  have S8 := S.grow S2.mem.ext
  have D8 := C.ext S8.mem.ext
  have F8 := S2.cells
  have Ft : Cells h8 fb (iv .u8 ((fileOf (kindOf xs) (rateOf xs) fs).take (xs.length - 4))) := by simpa [iv] using F8.take (n := xs.length - 4)
  have Dt := Ct.ext S8.mem.ext
  have lf : ((fileOf (kindOf xs) (rateOf xs) fs).take (xs.length - 4)).length = xs.length - 4 - 0 := by simp; omega
  have fin : BIF (!((bstr ((fileOf (kindOf xs) (rateOf xs) fs).take (xs.length - 4))).toList == (bstr (xs.take (xs.length - 4))).toList))
      (ALC ⟨[]⟩ T_float32 (fun g h5 => RdS h h5 (.tuple ⟨[.int .i64 (0 : Int), .int .i64 (0 : Int), .slice (some ⟨g, 0, none⟩) 0 0, .int .i64 5]⟩) (readFile xs)) h8)
      (spec_ReadSoundFile.J10 (fun u h' => RdS h h' u (readFile xs)) b xs.length c (kindOf xs) (rateOf xs) sb sl sc fb xs.length fc h8) := by
    rw [bstr_ne (fun x hx => file_byt _ _ _ x (List.mem_of_mem_take hx)) (hb.take _)]
    refine br (fun h9 => ?_) fun h9 => ?_
    · exact bad S8.mem (by rw [readFile, if_neg h2, if_neg (by rw [h4]; decide), if_neg (by simpa using h6), ← hfile, if_pos (by simpa using h9)])
    unfold spec_ReadSoundFile.J10
    refine bytes_str U_sl_uint8 U_uint8 U_string F8 hflen (as_s ?_)
    refine bytes_str U_sl_uint8 U_uint8 U_string D8 rfl (as_s ?_)
    rw [bstr_ne (file_byt _ _ _) hb]
    refine br (fun h10 => ?_) fun h10 => ?_
    · exact bad S8.mem (by rw [readFile, if_neg h2, if_neg (by rw [h4]; decide), if_neg (by simpa using h6), ← hfile, if_neg (by simpa using h9), if_pos (by simpa using h10)])
    have er : readFile xs = (kindOf xs, rateOf xs, samples (kindOf xs) (countOf xs).toNat (xs.drop 12), 0) := by
      rw [readFile, if_neg h2, if_neg (by rw [h4]; decide), if_neg (by simpa using h6), ← hfile, if_neg (by simpa using h9), if_neg (by simpa using h10)]
    rw [er]
    exact ⟨sb, sl, sc, rfl, fs, S8, hf⟩
  refine ⟨?_, ?_⟩
  · refine bytes_str U_sl_uint8 U_uint8 U_string Ft lf (as_s ?_)
    exact bytes_str U_sl_uint8 U_uint8 U_string Dt lt (as_s fin)
  · refine bytes_str U_sl_uint8 U_uint8 U_string Dt lt (as_s ?_)
    exact bytes_str U_sl_uint8 U_uint8 U_string Ft lf (as_s fin)
theorem impl_ReadSoundFile_c {h : Heap} {b : Option Addr} {l c : Nat} {xs : List Int} (C : Cells h b (iv .u8 xs)) (hl : xs.length = l) (hc : l ≤ c) (hb : Byt xs) (hm : l ≤ 1048576) :
    CALL prg f_impl_ReadSoundFile #[.slice b l c] (fun u h' => RdS h h' u (readFile xs)) h := by
  subst hl
  refine impl_ReadSoundFile.call ?_
  have bad : ∀ {hh : Heap} {r : Int}, Mem h hh [] → readFile xs = (0, 0, [], r) → RdS h hh (.tuple ⟨[.int .i64 (0 : Int), .int .i64 (0 : Int), .slice none 0 0, .int .i64 r]⟩) (readFile xs) :=
    fun M e => by rw [e]; exact ⟨_, _, _, rfl, FlS.nil' M⟩
  refine isLong_c.mono ?_
  rintro _ h1 ⟨rfl, x1⟩
  refine brd (fun h2 => bad ((Mem.start h).grow x1) (by rw [readFile, if_pos h2])) fun h2 => ?_
  refine (soundHead_c (C.ext x1) rfl hc hb hm).mono ?_
  rintro _ h3 ⟨⟨k, r, n, rfl, hk⟩, x3⟩
  refine tup4 (as_i (as_i (as_i (as_b ?_))))
  have X3 := x1.trans x3
  refine br (fun h4 => ?_) fun h4 => ?_
  · have h4 : okHead xs = false := by simpa using h4
    exact bad ((Mem.start h).grow X3) (by rw [readFile, if_neg h2, if_pos h4])
  have h4 : okHead xs = true := by simpa using h4
  obtain ⟨rfl, rfl, rfl⟩ := hk h4
  obtain ⟨o1, o2, o3, o4⟩ := okHead_out h4 hb
  have o5 : inR (rateOf xs) 1 1000000 = true := by simp [okHead] at h4; exact h4.1.2
  refine (sampleSize_c _ o2).go fun h5 x5 => as_i ?_
  have X5 := X3.trans x5
  have hw := width_two o2
  rw [len_wrap ⟨o3, o4⟩ hw]
  refine br (fun h6 => ?_) fun h6 => ?_
  · exact bad ((Mem.start h).grow X5) (by rw [readFile, if_neg h2, if_neg (by rw [h4]; decide), if_pos (by simpa using h6)])
  have h6 : (xs.length : Int) = 16 + countOf xs * width (kindOf xs) := by simpa using h6
  have hcw := toNat_mul (n := countOf xs) o3 hw
  have hcp : 0 ≤ countOf xs * width (kindOf xs) := by rcases hw with e | e <;> (rw [e]; omega)
  unfold impl_ReadSoundFile.J6
  refine slb (by omega) (by omega) (by omega) ?_
  have C12 : Cells h (slA b c 12 1) (iv .u8 (xs.drop 12)) := by simpa [iv] using C.sub (cap := c) (lo := 12) (sz := 1) (by rw [iv_len]; omega)
  refine (soundSamples_c (C12.ext X5) (by simp) (by omega) (hb.drop 12) (by omega) o2 ⟨o3, o4⟩).mono ?_
  rintro _ h7 ⟨sb, sl, sc, rfl, fs, S, hf⟩
  have S := S.join ((Mem.start h).grow X5)
  rw [List.append_nil] at S
  have hfl : fs.length = (countOf xs).toNat := by
    have := congrArg List.length hf
    rw [List.length_map, samples_full (by rw [List.length_drop]; omega)] at this
    exact this
  have hsl : fs.length = sl := by have := S.len1; rwa [fv_len] at this
  refine as_l ?_
  refine (soundFile_c S.cells hsl (by omega) o2 o5).mono ?_
  rintro _ h8 ⟨fb, fc, rfl, S2⟩
  have hfile : fileOf (kindOf xs) (rateOf xs) fs = fileOf (kindOf xs) (rateOf xs) (samples (kindOf xs) (countOf xs).toNat (xs.drop 12)) := by rw [← hf, file_cn]
  have hflen : (fileOf (kindOf xs) (rateOf xs) fs).length = xs.length := by rw [file_len' o2, hfl, hcw]; omega
  have hfc : (fileOf (kindOf xs) (rateOf xs) fs).length ≤ fc := by
    obtain ⟨B, O, _⟩ := S2.own
    exact O.le
  refine as_l ?_
  have e4 : ((xs.length : Int) - 4).toNat = xs.length - 4 := by omega
  rw [wrap64 (n := (xs.length : Int) - 4) (by omega) (by omega), e4, slA_zero, slA_zero]
  rw [hflen] at hfc S2 ⊢
  refine slb (by omega) (by omega) (by omega) (slb (by omega) (by omega) (by omega) ?_)
  have S8 := S.grow S2.mem.ext
  have D8 := C.ext S8.mem.ext
  have F8 := S2.cells
  have Ft : Cells h8 fb (iv .u8 ((fileOf (kindOf xs) (rateOf xs) fs).take (xs.length - 4))) := by simpa [iv] using F8.take (n := xs.length - 4)
  have Dt : Cells h8 b (iv .u8 (xs.take (xs.length - 4))) := by simpa [iv] using D8.take (n := xs.length - 4)
  have lt : (xs.take (xs.length - 4)).length = xs.length - 4 - 0 := by simp
  have lf : ((fileOf (kindOf xs) (rateOf xs) fs).take (xs.length - 4)).length = xs.length - 4 - 0 := by simp; omega
  refine (bytesEqual_c Ft Dt lf lt (fun x hx => file_byt _ _ _ x (List.mem_of_mem_take hx)) (hb.take _)).mono ?_
  rintro _ h9 ⟨rfl, x9⟩
  refine as_b (br (fun h10 => ?_) fun h10 => ?_)
  · exact bad (S8.grow x9).mem (by rw [readFile, if_neg h2, if_neg (by rw [h4]; decide), if_neg (by simpa using h6), ← hfile, if_pos (by simpa using h10)])
  refine (bytesEqual_c (F8.ext x9) (D8.ext x9) hflen rfl (file_byt _ _ _) hb).mono ?_
  rintro _ h11 ⟨rfl, x11⟩
  refine as_b (br (fun h12 => ?_) fun h12 => ?_)
  · exact bad (S8.grow (x9.trans x11)).mem (by rw [readFile, if_neg h2, if_neg (by rw [h4]; decide), if_neg (by simpa using h6), ← hfile, if_neg (by simpa using h10), if_pos (by simpa using h12)])
  have er : readFile xs = (kindOf xs, rateOf xs, samples (kindOf xs) (countOf xs).toNat (xs.drop 12), 0) := by
    rw [readFile, if_neg h2, if_neg (by rw [h4]; decide), if_neg (by simpa using h6), ← hfile, if_neg (by simpa using h10), if_neg (by simpa using h12)]
  rw [er]
  exact ⟨sb, sl, sc, rfl, fs, S8.grow (x9.trans x11), hf⟩
end Go.Sx
