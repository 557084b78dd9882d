/- Rings copied in lists; reeds. -/
import Derived.Test.YtjoajnmhdobbfaaLp8
import Derived.Test.YtjoajnmhdobbfaaK3
set_option linter.unusedVariables false
set_option linter.unusedSimpArgs false
namespace Go.Sx
open Go.Proofs
set_option maxRecDepth 100000
set_option maxHeartbeats 1000000

section
variable {h : Heap} {b : Option Addr} {l c : Nat} {rs : List GRing}
theorem fwone : FW .f32 1065353216 one32 := fw_c32 (by decide) (by decide)
theorem l04Reed_c {r s d a1 a2 a3 : Nat} (hr : FW .f32 r a1) (hs : FW .f32 s a2) (hd : FW .f32 d a3) : Fl prg f_spec_l04Reed #[.float .f32 r, .float .f32 s, .float .f32 d] .f32 (clamp (fadd .f32 a1 (fmul .f32 a2 a3)) one32) := fun h => by
  refine spec_l04Reed.call (fM hs hd fun w1 h1 => fA hr h1 fun w2 h2 => (l01Clamp_c h2 fwone).go fun h3 y x3 hy => as_f ?_)
  exact ⟨⟨y, rfl, hy⟩, x3⟩
theorem ReedAt_c {r s d a1 a2 a3 : Nat} (hr : FW .f32 r a1) (hs : FW .f32 s a2) (hd : FW .f32 d a3) : Fl prg f_impl_ReedAt #[.float .f32 r, .float .f32 s, .float .f32 d] .f32 (clamp (fadd .f32 a1 (fmul .f32 a2 a3)) one32) := fun h => by
  refine impl_ReedAt.call (fM hs hd fun w1 h1 => fA hr h1 fun w2 h2 => (ClampSample_c h2 fwone).go fun h3 y x3 hy => as_f ?_)
  exact ⟨⟨y, rfl, hy⟩, x3⟩
/-- A ring laid in a block of its own as a slice's element. -/
theorem splice_ring {cs : Array Value} (hs : cs.size = 2) : (⟨splice 0 2 cs [.slice none 0 0, .int .i64 (0 : Int)]⟩ : Array Value) = cs := by
  rw [splice_all (n := 2) rfl]
theorem l04Copies_c (S : SlR rRing h b l c rs) (hr : ∀ r ∈ rs, r.Samples.length ≤ 1048576) (hl : l ≤ 1048576) :
    CALL prg f_spec_l04Copies #[.slice b l c] (fun u h' => ∃ b' c' B, u = .slice b' l c' ∧ SlO T_impl_Ring rRing B b' l c' rs ∧ Mem h h' B) h := by
  have hls := S.len
  have hm : (1048577 : Nat) ≤ maxLen := by decide
  refine spec_l04Copies.call ((Mem.start h).alc fun g h1 x1 M => ?_)
  refine loop (fun y hh => ∃ (n : Nat) (b' : Option Addr) (c' : Nat) (B : List Blk), y = (b, l, c, b', n, c', (n : Int)) ∧ n ≤ l ∧ SlO T_impl_Ring rRing B b' n c' (rs.take n) ∧ Mem h hh B) (fun y => (l - y.2.2.2.2.2.2).toNat)
    ⟨0, _, _, _, rfl, by omega, SlO.empty g, M⟩ ?_
  rintro y hh ⟨n, b', c', B, rfl, hn, O, M⟩
  refine brd (fun hc => ?_) fun hc => ?_
  · have hi : n < rs.length := by omega
    refine (S.ext M.ext).idx ring_sz (by omega) (by omega) fun p Rp => NewR.go M (l02Copy_c Rp (hr _ (by rw [Int.toNat_natCast, getElem!_pos _ n hi]; exact List.getElem_mem _))) fun h2 cs Bn M O2 s2 => as_a (siz s2 ?_)
    rw [splice_ring s2]
    have M := M.cnt (W := B ++ (Bn ++ [])) (fun p => by simp only [cnt_app, cnt_cons, cnt_nil] at *; omega)
    refine push_own E_sl_impl_Ring O M O2 (by omega) (by omega) fun b2 c2 h3 B2 O3 M3 => as_l ⟨⟨n + 1, b2, c2, B2, by rw [wrap64_succ (by omega)], by omega, ?_, by simpa using M3⟩, by rw [wrap64_succ (by omega)]; show _ < _; simp; omega⟩
    rw [take_snoc hi]; exact O3
  · obtain rfl : n = l := by omega
    rw [← hls, List.take_length] at O
    rw [← hls]
    exact ⟨b', c', B, rfl, O, M⟩
theorem cloneRings_c (S : SlR rRing h b l c rs) (hr : ∀ r ∈ rs, r.Samples.length ≤ 1048576) (hl : l ≤ 1048576) :
    CALL prg f_impl_cloneRings #[.slice b l c] (fun u h' => ∃ b' c' B, u = .slice b' l c' ∧ SlO T_impl_Ring rRing B b' l c' rs ∧ Mem h h' B) h := by
  have hls := S.len
  have hm : (1048577 : Nat) ≤ maxLen := by decide
  refine impl_cloneRings.call ?_
  refine loop (fun y hh => ∃ (n : Nat) (b' : Option Addr) (c' : Nat) (B : List Blk), y = (b', n, c', b, l, c, (l : Int), (n : Int)) ∧ n ≤ l ∧ SlO T_impl_Ring rRing B b' n c' (rs.take n) ∧ Mem h hh B) (fun y => (l - y.2.2.2.2.2.2.2).toNat)
    ⟨0, _, _, _, rfl, by omega, SlO.nil, Mem.start h⟩ ?_
  rintro y hh ⟨n, b', c', B, rfl, hn, O, M⟩
  refine brd (fun hc => ?_) fun hc => ?_
  · have hi : n < rs.length := by omega
    refine (S.ext M.ext).idx ring_sz (by omega) (by omega) fun p Rp => Rp.lda1 rfl fun ca Ra => (Mem.start hh).alc fun g5 h5 x5 N => N.sta0 .here (rsz Ra rfl) (rRing.rone Ra) rfl .here fun h6 N => N.lda0 .here (rsz Ra rfl) ?_
    have M := M.join N
    have Ra : rRing.rd h6 ca.toList rs[n]! := rRing.ext N.ext Ra
    refine NewR.go M (Ring_clone_c Ra (hr _ (by rw [getElem!_pos _ n hi]; exact List.getElem_mem _))) fun h2 cs Bn M O2 s2 => as_a (siz s2 ?_)
    rw [splice_ring s2]
    have M := M.cnt (W := B ++ (Bn ++ [])) (fun p => by simp only [cnt_app, cnt_cons, cnt_nil] at *; omega)
    refine push_own E_sl_impl_Ring O M O2 (by omega) (by omega) fun b2 c2 h3 B2 O3 M3 => as_l ⟨⟨n + 1, b2, c2, B2, by rw [wrap64_succ (by omega)], by omega, ?_, by simpa using M3⟩, by rw [wrap64_succ (by omega)]; show _ < _; simp; omega⟩
    rw [take_snoc hi]; exact O3
  · obtain rfl : n = l := by omega
    rw [← hls, List.take_length] at O
    rw [← hls]
    exact ⟨b', c', B, rfl, O, M⟩
theorem l04Oldest_c (S : SlR rRing h b l c rs) (hr : ∀ r ∈ rs, r.ok = true) (hl : l ≤ 1048576) :
    CALL prg f_spec_l04Oldest #[.slice b l c] (fun u h' => ∃ b' c' B, u = .slice b' l c' ∧ SlO T_float32 (rF .f32) B b' l c' (rs.map GRing.old) ∧ Mem h h' B) h := by
  have hls := S.len
  have hm : (1048577 : Nat) ≤ maxLen := by decide
  refine spec_l04Oldest.call ((Mem.start h).alc fun g h1 x1 M => ?_)
  refine loop (fun y hh => ∃ (n : Nat) (b' : Option Addr) (c' : Nat) (B : List Blk), y = (b, l, c, b', n, c', (n : Int)) ∧ n ≤ l ∧ SlO T_float32 (rF .f32) B b' n c' ((rs.take n).map GRing.old) ∧ Mem h hh B) (fun y => (l - y.2.2.2.2.2.2).toNat)
    ⟨0, _, _, _, rfl, by omega, SlO.empty g, M⟩ ?_
  rintro y hh ⟨n, b', c', B, rfl, hn, O, M⟩
  refine brd (fun hc => ?_) fun hc => ?_
  · have hi : n < rs.length := by omega
    have hok := hr rs[n]! (by rw [getElem!_pos _ n hi]; exact List.getElem_mem _)
    obtain ⟨k1, k2, k3, k4, k5⟩ := at_lt hok
    refine (S.ext M.ext).idx ring_sz (by omega) (by omega) fun p Rp => Rp.oL1 fun b3 l3 c3 S3 => (S.ext M.ext).idx ring_sz (by omega) (by omega) fun p2 Rp2 => Rp2.oI ?_
    have hl3 : rs[n]!.Samples.length = l3 := S3.len
    refine S3.idx (by decide) k1 (by show rs[n]!.At < (l3 : Int); omega) fun p4 Rp4 => Rp4.oF1 fun y hy => ?_
    have hy : FW .f32 y rs[n]!.old := hy
    refine push_own (Bn := []) (L := []) E_sl_float32 O (by simpa using M) ⟨rfl, y, rfl, hy⟩ (by omega) (by omega) fun b2 c2 h3 B2 O3 M3 => as_l ⟨⟨n + 1, b2, c2, B2, by rw [wrap64_succ (by omega)], by omega, ?_, by simpa using M3⟩, by rw [wrap64_succ (by omega)]; show _ < _; simp; omega⟩
    rw [take_snoc hi, List.map_append]; exact O3
  · obtain rfl : n = l := by omega
    rw [← hls, List.take_length] at O
    rw [← hls]
    exact ⟨b', c', B, rfl, O, M⟩
end
end Go.Sx
