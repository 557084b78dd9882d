/- The law FnSoundFiles, as the program tells it. -/
import Derived.Test.YtjoajnmhdobbfaaLc10
import Derived.Test.YtjoajnmhdobbfaaLc11
import Derived.Test.YtjoajnmhdobbfaaLc5
namespace Go.Sx
set_option maxRecDepth 100000
set_option maxHeartbeats 1000000
open Go.Proofs Ieee
set_option linter.unusedVariables false

theorem l01Same_cn {a b : Nat} (e : cn .f32 a = cn .f32 b) : Ret prg f_spec_l01Same #[.float .f32 a, .float .f32 b] (.bool true) := fun h => by
  obtain ⟨hn, he⟩ := canon_eq_iff e
  refine spec_l01Same.call ((l01NaN_c a).go fun h1 x1 => as_b ?_)
  rw [isnan_eq]
  cases hna : nan .f32 a with
  | true =>
    refine br_t rfl ?_
    unfold spec_l01Same.J2
    refine br_t rfl ((l01NaN_c a).go fun h2 x2 => as_b (br_t (by rw [isnan_eq, hna]) ((l01NaN_c b).go fun h3 x3 => as_b ⟨by rw [isnan_eq, ← hn, hna], (x1.trans x2).trans x3⟩)))
  | false =>
    obtain rfl := he hna
    refine br_f rfl ((l01NaN_c a).go fun h2 x2 => as_b ?_)
    rw [isnan_eq, hna]
    unfold spec_l01Same.J2
    exact br_f rfl ((Float32bits_c a).go fun h3 x3 => as_i ((Float32bits_c a).go fun h4 x4 => as_i ⟨by simp, ((x1.trans x2).trans x3).trans x4⟩))
theorem SameReals_c {h : Heap} {b1 b2 : Option Addr} {l1 c1 l2 c2 : Nat} {xs ys : List Nat} (C1 : Cells h b1 (fv .f32 xs)) (C2 : Cells h b2 (fv .f32 ys)) (hl1 : xs.length = l1) (hl2 : ys.length = l2) (he : xs.map (cn .f32) = ys.map (cn .f32)) (hm : l1 ≤ 1073741824) :
    CALL prg f_spec_SameReals #[.slice b1 l1 c1, .slice b2 l2 c2] (fun u h' => u = .bool true ∧ Ext h h') h := by
  have hlen : xs.length = ys.length := by simpa using congrArg List.length he
  subst hl1; subst hl2
  refine spec_SameReals.call (spec_l02SameList.call (br_f (by rw [hlen]; simp) ?_))
  refine loop (fun x hh => ∃ n : Nat, x = (b1, xs.length, c1, b2, ys.length, c2, (n : Int)) ∧ n ≤ xs.length ∧ Ext h hh) (fun x => (xs.length - x.2.2.2.2.2.2).toNat) ⟨0, rfl, by omega, Ext.refl _⟩ ?_
  rintro x hh ⟨n, rfl, hn, X⟩
  refine brd (fun hc => ?_) fun hc => as_b ⟨rfl, X⟩
  obtain ⟨a1, rfl⟩ := C1.base (by rw [fv_len]; omega)
  obtain ⟨a2, rfl⟩ := C2.base (by rw [fv_len]; omega)
  have hx := (C1.ext X).get (i := n) (fv_get (by omega))
  have hy := (C2.ext X).get (i := n) (fv_get (by omega))
  have hxy : cn .f32 (xs[n]'(by omega)) = cn .f32 (ys[n]'(by omega)) := by
    have := congrArg (fun l => l[n]?) he
    simpa [show n < xs.length by omega, show n < ys.length by omega] using this
  refine idxs (by omega) (by omega) ?_
  simp only [Int.toNat_natCast, Nat.mul_one]
  refine o_f hx (idxs (by omega) (by omega) (o_f hy ((l01Same_cn hxy).go fun h' x' => as_b (br_f rfl ?_))))
  rw [wrap64_succ (by omega)]
  exact ⟨⟨n + 1, rfl, by omega, X.trans x'⟩, by show _ < _; simp; omega⟩
theorem xor8 {a d : Int} (ha : 0 ≤ a ∧ a < 256) (hd : 1 ≤ d ∧ d < 256) : 0 ≤ bitI .xor .u8 a d ∧ bitI .xor .u8 a d < 256 ∧ bitI .xor .u8 a d ≠ a := by
  have e : bitI .xor .u8 a d = ((BitVec.ofInt 8 a ^^^ BitVec.ofInt 8 d).toNat : Int) := by
    simp only [bitI]
    have : (BitVec.ofInt IntKind.u8.bits a ^^^ BitVec.ofInt IntKind.u8.bits d).toNat < 256 := (BitVec.ofInt 8 a ^^^ BitVec.ofInt 8 d).isLt
    exact wrapu rfl (by omega) (by show _ < (256 : Int); omega)
  have hlt : (BitVec.ofInt 8 a ^^^ BitVec.ofInt 8 d).toNat < 256 := (BitVec.ofInt 8 a ^^^ BitVec.ofInt 8 d).isLt
  refine ⟨by omega, by omega, fun h => ?_⟩
  rw [e] at h
  have ea : (BitVec.ofInt 8 a).toNat = a.toNat := by rw [BitVec.toNat_ofInt]; omega
  have ed : (BitVec.ofInt 8 d).toNat = d.toNat := by rw [BitVec.toNat_ofInt]; omega
  have h2 : BitVec.ofInt 8 a ^^^ BitVec.ofInt 8 d = BitVec.ofInt 8 a := BitVec.eq_of_toNat_eq (by rw [ea]; omega)
  have h3 : BitVec.ofInt 8 d = 0#8 := by
    have := congrArg (BitVec.ofInt 8 a ^^^ ·) h2
    simpa [← BitVec.xor_assoc] using this
  rw [h3] at ed
  simp at ed
  omega
section
variable {h : Heap} {cb mb : Option Addr} {cc mc : Nat} {code more : List Int}
abbrev T1 (h : Heap) : Value → Heap → Prop := fun u h' => u = .bool true ∧ Ext h h'
structure Both (h : Heap) (cb mb : Option Addr) (code more : List Int) : Prop where
  c : Cells h cb (iv .u8 code)
  m : Cells h mb (iv .u8 more)
  bc : Byt code
  bm : Byt more
theorem sf27 {hh : Heap} {db : Option Addr} {dl dc : Nat} {B L : List Blk} {rate : Int} {fs : List Nat} (G : Both h cb mb code more) (H : Rd 2 rate fs) (O : Own B T_uint8 1 db dl dc (iv .u8 (fileOf 2 rate fs))) (M : Mem h hh (B ++ L)) :
    laws_FnSoundFiles.J27 (T1 h) cb code.length cc mb more.length mc db dl dc hh := by
  have hl : (fileOf 2 rate fs).length = dl := by have := O.len1; rwa [iv_len] at this
  have hl2 := file_len' H.k rate fs
  have hw : (width 2).toNat = 4 := by decide
  have hn := H.n
  rw [hw] at hl2
  have hb := file_byt 2 rate fs
  unfold laws_FnSoundFiles.J27
  refine M.alc fun g h1 x1 M => ?_
  have C : Cells h1 db (iv .u8 (fileOf 2 rate fs)) := (O.cells M ((List.sublist_append_left _ _).trans (List.sublist_cons_self _ _)))
  have S0 : Sl h h1 (B ++ L) T_uint8 1 (some ⟨g, 0, none⟩) 0 0 (iv .u8 []) := by
    have := Sl.made (l := 0) (c := 0) (sz := 1) M (Nat.le_refl _) (by decide) (by simp)
    simpa [iv] using this
  obtain ⟨da, rfl⟩ := C.base (by rw [iv_len]; omega)
  refine push_bytes S0 (by omega) hl C fun b' c' h2 S => as_l ?_
  simp only [Nat.zero_add, List.nil_append] at S ⊢
  obtain ⟨Bb, Ob, M2⟩ := S.own
  have hle := Ob.le
  refine (P6Pick_c M2 G.c G.bc).mono ?_
  rintro _ h3 ⟨p, rfl, p1, p2, p3, M3⟩
  refine as_i ?_
  have hp : p < (dl : Int) := by omega
  obtain ⟨gb, rfl⟩ := Ob.base (by omega)
  refine idxs p1 hp ?_
  have Cb := Ob.cells M3 (List.sublist_append_left _ _)
  have e1 := Cb.get (i := p.toNat) (iv_get (by omega))
  rw [Nat.mul_one]
  refine o_i e1 ((P6Pick_c M3 G.m G.bm).mono ?_)
  rintro _ h4 ⟨d, rfl, d1, d2, d3, M4⟩
  refine as_i ?_
  have Cb := Ob.cells M4 (List.sublist_append_left _ _)
  have e2 := Cb.get (i := p.toNat) (iv_get (by omega))
  refine ⟨fun j hj => ?_, idxs p1 hp ?_⟩
  · obtain rfl : j = 0 := by omega
    rw [show ((⟨gb, 0, none⟩ : Addr).add p.toNat).add 0 = (⟨gb, 0, none⟩ : Addr).add p.toNat by simp [Addr.add], e1, e2]
  have hd : d < 255 := by omega
  have ed : IntKind.u8.wrap (IntKind.i64.wrap (1 + d)) = 1 + d := by rw [wrap64 (by omega) (by omega), wrap8]; omega
  rw [ed, add_none, Nat.zero_add]
  obtain ⟨v1, v2, v3⟩ := xor8 (hb.at (i := p.toNat) (by omega)) (d := 1 + d) (by omega)
  generalize bitI .xor .u8 ((fileOf 2 rate fs)[p.toNat]'(by omega)) (1 + d) = v at v1 v2 v3 ⊢
  refine Ob.st1 M4 (by omega) fun B5 h5 O5 M5 => ?_
  rw [iv_set] at O5
  have hb5 : Byt ((fileOf 2 rate fs).set p.toNat v) := fun x hx => by
    rcases List.mem_or_eq_of_mem_set hx with hx | rfl
    · exact hb x hx
    · exact ⟨v1, v2⟩
  have hl5 : ((fileOf 2 rate fs).set p.toNat v).length = dl := by rw [List.length_set]; exact hl
  have hbad := bad_file (k := 2) (rate := rate) (fs := fs) (by omega) (p := p.toNat) (by omega) ⟨v1, v2⟩ v3
  generalize (fileOf 2 rate fs).set p.toNat v = ys at O5 hb5 hl5 hbad
  refine (impl_ReadSoundFile_c (O5.cells M5 (List.sublist_append_left _ _)) hl5 hle hb5 (by omega)).mono ?_
  rintro _ h6 ⟨_, _, _, rfl, F6⟩
  obtain ⟨B6, _, _, _, _, _, M6⟩ := FlS.own M5 F6
  refine tup4 (as_i (as_i (as_l (as_i ?_))))
  refine (spec_ReadSoundFile_c (O5.cells M6 ((List.sublist_append_left _ _).trans (List.sublist_append_right _ _))) hl5 hle hb5 (by omega)).mono ?_
  rintro _ h7 ⟨_, _, _, rfl, F7⟩
  obtain ⟨B7, _, _, _, _, _, M7⟩ := FlS.own M6 F7
  refine tup4 (as_i (as_i (as_l (as_i (br_t (by simp) (br (fun hb => ⟨rfl, M7.ext⟩) fun hb => ⟨?_, M7.ext⟩))))))
  rcases hbad with e | e
  · rw [e]; rfl
  · rw [e] at hb; simp at hb
theorem sf15 {hh : Heap} {sb db kb : Option Addr} {sl sc dl dc kl kc : Nat} {Bs Bd Bk L : List Blk} {rate : Int} {fs ks : List Nat} (G : Both h cb mb code more) (H : Rd 2 rate fs)
    (Os : Own Bs T_float32 1 sb sl sc (fv .f32 fs)) (Od : Own Bd T_uint8 1 db dl dc (iv .u8 (fileOf 2 rate fs))) (Ok : Own Bk T_float32 1 kb kl kc (fv .f32 ks)) (ek : ks.map (cn .f32) = fs.map (deco 1)) (M : Mem h hh (Bs ++ (Bd ++ (Bk ++ L)))) :
    laws_FnSoundFiles.J15 (T1 h) cb code.length cc mb more.length mc sb sl sc db dl dc kb kl kc hh := by
  have hsl : fs.length = sl := by have := Os.len1; rwa [fv_len] at this
  have hdl : (fileOf 2 rate fs).length = dl := by have := Od.len1; rwa [iv_len] at this
  have hkl : ks.length = kl := by have := Ok.len1; rwa [fv_len] at this
  have hks : ks.length = fs.length := by have := congrArg List.length ek; simpa using this
  have hl2 := file_len' H.k rate fs
  have hw : (width 2).toNat = 4 := by decide
  rw [hw] at hl2
  have hn := H.n
  have hsc := Os.le
  have hdc := Od.le
  unfold laws_FnSoundFiles.J15
  refine loop (fun x hh => ∃ n : Nat, x = (cb, code.length, cc, mb, more.length, mc, sb, sl, sc, db, dl, dc, kb, kl, kc, (n : Int)) ∧ n ≤ sl ∧ Mem h hh (Bs ++ (Bd ++ (Bk ++ L)))) (fun x => (sl - x.2.2.2.2.2.2.2.2.2.2.2.2.2.2.2).toNat) ⟨0, rfl, by omega, M⟩ ?_
  rintro x hh ⟨n, rfl, hnl, M⟩
  have Cs := Os.cells M (List.sublist_append_left _ _)
  have Ck := Ok.cells M ((List.sublist_append_left _ _).trans ((List.sublist_append_right _ _).trans (List.sublist_append_right _ _)))
  refine brd (fun hc => ?_) fun hc => ?_
  · obtain ⟨a1, rfl⟩ := Cs.base (by rw [fv_len]; omega)
    obtain ⟨a2, rfl⟩ := Ck.base (by rw [fv_len]; omega)
    have hx := Cs.get (i := n) (fv_get (by omega))
    have hy := Ck.get (i := n) (fv_get (by omega))
    refine idxs (by omega) (by omega) ?_
    simp only [Int.toNat_natCast, Nat.mul_one]
    have hy0 : cell hh ((a2.add n).add 0) = some (.float .f32 (ks[n]'(by omega))) := by rw [show (a2.add n).add 0 = a2.add n by simp [Addr.add]]; exact hy
    refine o_f hy (idxs (by omega) (by omega) (o_f hx ((ToShort_c _).go fun h1 x1 => as_i (pin1 x1 hy ((FromShort_c _ _).mono ?_)))))
    rintro _ h2 ⟨⟨r, rfl, hr⟩, x2⟩
    refine as_f (pin1 (x1.trans x2) hy (br_f ?_ ?_))
    · have hsb := shortOf_bound (fs[n]'(by omega))
      have hnn := fromS_nan hsb.1 hsb.2
      have e1 : cn .f32 (ks[n]'(by omega)) = cn .f32 (fromS (shortOf (fs[n]'(by omega)))) := by
        have := congrArg (fun l => l[n]?) ek
        simpa [show n < ks.length by omega, show n < fs.length by omega, deco] using this
      have e2 : cn .f32 r = cn .f32 (fromS (shortOf (fs[n]'(by omega)))) := hr
      have k1 := canon_eq_iff e1
      have k2 := canon_eq_iff e2
      have f1 := k1.2 (by rw [k1.1]; exact hnn)
      have f2 := k2.2 (by rw [k2.1]; exact hnn)
      rw [f1, f2, ne_self, hnn]
    · rw [wrap64_succ (by omega)]
      exact ⟨⟨n + 1, rfl, by omega, M.grow (x1.trans x2)⟩, by show _ < _; simp; omega⟩
  · refine (P6Pick_c M G.m G.bm).mono ?_
    rintro _ h1 ⟨v, rfl, v1, v2, v3, M1⟩
    refine as_i ?_
    have e0 : IntKind.i64.wrap ((dl : Int) - 12) = (dl : Int) - 12 := wrap64 (by omega) (by omega)
    rw [e0] at v2
    obtain ⟨j, rfl⟩ := Int.eq_ofNat_of_zero_le v1
    have hj : 12 + j ≤ dl := by omega
    have e1 : IntKind.i64.wrap (12 + (j : Int)) = ((12 + j : Nat) : Int) := by rw [wrap64 (by omega) (by omega)]; omega
    rw [e1]
    refine slb (by omega) (by omega) (by omega) ?_
    rw [Int.toNat_natCast, slA_zero]
    have Cd := Od.cells M1 ((List.sublist_append_left _ _).trans (List.sublist_append_right _ _))
    have Ct : Cells h1 db (iv .u8 ((fileOf 2 rate fs).take (12 + j))) := by rw [← iv_take]; exact Cd.take
    refine (impl_TornSamples_c Ct (by rw [List.length_take]; omega) (by omega) ((file_byt 2 rate fs).take _) (by omega)).mono ?_
    rintro _ h2 ⟨tb, tl, tc, rfl, F2⟩
    rw [torn_cut H (by omega)] at F2 ⊢
    obtain ⟨Bt, ts, Ot, hts, htl, htn, M2⟩ := FlS.own M1 F2
    have e2 : IntKind.i64.wrap (Int.tdiv (IntKind.i64.wrap (((12 + j : Nat) : Int) - 12)) 4) = ((j / 4 : Nat) : Int) := by
      rw [wrap64 (n := ((12 + j : Nat) : Int) - 12) (by omega) (by omega), show ((12 + j : Nat) : Int) - 12 = (j : Int) by omega, Int.tdiv_eq_ediv_of_nonneg (by omega), wrap64 (by omega) (by omega)]
      omega
    rw [e2]
    have fin : ∀ m : Nat, m = min (j / 4) fs.length → laws_FnSoundFiles.J25 (T1 h) cb code.length cc mb more.length mc sb sl sc db dl dc tb tl tc 0 (m : Int) h2 := by
      intro m hm
      rw [← hm] at hts htn
      unfold laws_FnSoundFiles.J25
      refine br_f rfl (slb (by omega) (by omega) (by omega) ?_)
      rw [Int.toNat_natCast, slA_zero]
      have Cs2 := Os.cells M2 ((List.sublist_append_left _ _).trans (List.sublist_append_right _ _))
      have Cs3 : Cells h2 sb (fv .f32 (fs.take m)) := by
        have : (fv .f32 fs).take m = fv .f32 (fs.take m) := by simp [fv]
        rw [← this]; exact Cs2.take
      have hmt : (fs.take m).length = m := by rw [List.length_take]; omega
      refine (SameReals_c (Ot.cells M2 (List.sublist_append_left _ _)) Cs3 htl hmt hts (by rw [htn]; simp only [List.length_map]; omega)).mono ?_
      rintro _ h3 ⟨rfl, x3⟩
      refine as_b (br_f rfl ?_)
      have M3 := (M2.grow x3).perm (((List.perm_append_comm_assoc Bs Bd _).append_left Bt).trans (List.perm_append_comm_assoc Bt Bd _))
      exact sf27 G H Od M3
    refine tup2 (as_l (as_i (nz (by decide) (brd (fun hc2 => ?_) fun hc2 => ?_))))
    · rw [← hsl]; rw [← hsl] at hc2 fin
      exact fin fs.length (by omega)
    · exact fin (j / 4) (by omega)
end
end Go.Sx
