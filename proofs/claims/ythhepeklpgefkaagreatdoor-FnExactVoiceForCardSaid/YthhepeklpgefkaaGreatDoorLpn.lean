/- Cells that stay; blocks changed behind others. -/
import Derived.Test.YthhepeklpgefkaaGreatDoorLp7
import Derived.Test.YthhepeklpgefkaaGreatDoorLk46
set_option linter.unusedVariables false
set_option linter.unusedSimpArgs false
namespace Go.Sx
section
variable {h : Heap}
theorem Mem.pin1 {h0 h' : Heap} {L : List Blk} {g j : Nat} {cs : Array Value} {p : Prop} (M : Mem h0 h L) (l : Look L g cs) (hj : j < cs.size) (X : Ext h h') (H : p) : PIN h ⟨g, j, none⟩ 1 h' p := by
  refine Sx.pin X (fun k hk => ⟨cs[j], ?_⟩) H
  obtain rfl : k = 0 := by omega
  rw [add0, M.cell l]
  simp [hj]
theorem Upd.skip {B L L' : List Blk} {g : Nat} {cs : Array Value} (k : Upd L g cs L') : Upd (B ++ L) g cs (B ++ L') := by
  induction B with
  | nil => exact k
  | cons p B ih => exact .there ih
end
end Go.Sx
/- New pipes of one section: the rule's. -/
set_option linter.unusedVariables false
set_option linter.unusedSimpArgs false
namespace Go.Sx
open Go.Proofs Ieee
set_option maxRecDepth 100000
set_option maxHeartbeats 2000000

def quietR (n : Int) : GRing := ⟨List.replicate n.toNat 0, 0⟩
def pipeOf (n : Int) (op : Bool) (k l : Nat) : GPipe := { Right := [quietR n], Left := [quietR n], Scatter := [], End := onePole k, Open := op, Loss := l, Rest := 1061158912, Slope := 3200253952 }
def pipeIf (ok : Bool) (n : Int) (op : Bool) (k l : Nat) : GPipe × Int := if ok && inR n 1 1024 then (pipeOf n op k l, 0) else (z_Pipe, 2)
def newPipe (n : Int) (op : Bool) (k l : Nat) : GPipe × Int := pipeIf (place k && inside l 0 1065353216) n op k l
theorem pipe_ow {x : GPipe} {B1 B2 B3 : List Blk} {b1 b2 b3 : Option Addr} {l1 c1 l2 c2 l3 c3 : Nat} {v : List Value} {y1 y2 y3 : Nat} (O1 : SlO T_impl_Ring rRing B1 b1 l1 c1 x.Right) (O2 : SlO T_impl_Ring rRing B2 b2 l2 c2 x.Left) (O3 : SlO T_float32 (rF .f32) B3 b3 l3 c3 x.Scatter)
    (hv : rFilter.ow [] v x.End) (h1 : FW .f32 y1 x.Loss) (h2 : FW .f32 y2 x.Rest) (h3 : FW .f32 y3 x.Slope) :
    rPipe.ow (B1 ++ (B2 ++ B3)) ([.slice b1 l1 c1] ++ ([.slice b2 l2 c2] ++ ([.slice b3 l3 c3] ++ (v ++ [.bool x.Open, .float .f32 y1, .float .f32 y2, .float .f32 y3])))) x :=
  ⟨B1, B2 ++ B3, [.slice b1 l1 c1], _, rfl, rfl, ⟨b1, l1, c1, rfl, O1⟩, B2, B3, [.slice b2 l2 c2], _, rfl, rfl, ⟨b2, l2, c2, rfl, O2⟩, B3, [], [.slice b3 l3 c3], _, by simp, rfl, ⟨b3, l3, c3, rfl, O3⟩,
    [], [], v, _, rfl, rfl, hv, [], [], [.bool x.Open], _, rfl, rfl, ⟨rfl, rfl⟩, [], [], [.float .f32 y1], _, rfl, rfl, ⟨rfl, y1, rfl, h1⟩, [], [], [.float .f32 y2], [.float .f32 y3], rfl, rfl, ⟨rfl, y2, rfl, h2⟩, ⟨rfl, y3, rfl, h3⟩⟩
/-- A pipe's cells. -/
def ppC (b1 : Option Addr) (l1 c1 : Nat) (b2 : Option Addr) (l2 c2 : Nat) (b3 : Option Addr) (l3 c3 : Nat) (k : Int) (a b : Nat) (op : Bool) (y : Nat) : List Value :=
  [.slice b1 l1 c1] ++ ([.slice b2 l2 c2] ++ ([.slice b3 l3 c3] ++ (flC k a b 0 0 0 ++ [.bool op, .float .f32 y, .float .f32 1061158912, .float .f32 3200253952])))
theorem cRest : FW .f32 1061158912 1061158912 := fw_c32 (by decide) (by decide)
theorem cSlope : FW .f32 3200253952 3200253952 := fw_c32 (by decide) (by decide)
section
variable {h : Heap} {x a : Nat}
theorem pipe_no {n : Int} {op ok : Bool} {k l : Nat} {g : Nat} {hh : Heap} {L : List Blk} (M : Mem h hh ((g, T_impl_Pipe, ⟨Z_impl_Pipe⟩) :: L)) (e : (ok && inR n 1 1024) = false) :
    STA 13 hh ⟨g, 0, none⟩ ⟨Z_impl_Pipe⟩ fun h8 => LDA 13 h8 ⟨g, 0, none⟩ fun a9 => PairR rPipe h h8 (.tuple ⟨[.agg a9, .int .i64 (2 : Int)]⟩) (pipeIf ok n op k l).1 (pipeIf ok n op k l).2 := by
  rw [pipeIf, e, if_neg (by decide)]
  exact M.sta0 .here rfl (all_one rfl) rfl .here fun h3 M => M.lda0 .here rfl ⟨_, [], rfl, zow_Pipe, (Mem.start h).grow M.ext⟩
/-- A ring appended to an own slice of rings. -/
theorem push_ring {h0 hh : Heap} {B Bn L : List Blk} {b bb : Option Addr} {l c ll cc n : Nat} {xs : List GRing} {K : Value → Heap → Prop} {ty : Nat} {Q : Heap → Prop → Prop} (O : SlO T_impl_Ring rRing B b l c xs) (M : Mem h0 hh (B ++ (Bn ++ L))) (Or : SlO T_float32 (rF .f32) Bn bb ll cc (List.replicate n 0)) (hl : l ≤ 8)
    (Hp : ∀ (h' : Heap) (p : Prop), Ext hh h' → p → Q h' p)
    (H : ∀ b' c' h' B', Ext hh hh → SlO T_impl_Ring rRing B' b' (l + 1) c' (xs ++ [⟨List.replicate n 0, 0⟩]) → Mem h0 h' (B' ++ L) → K (.slice b' (l + 1) c') h') :
    ALC ⟨[.slice bb ll cc, .int .i64 (0 : Int)]⟩ T_impl_Ring (fun g h => Q h (SEMV prg (Builtin.append_ #[T_sl_impl_Ring, T_sl_impl_Ring] ty #[.slice b l c, .slice (some ⟨g, 0, none⟩) 1 1]) K h)) hh := by
  have hm : (9 : Nat) ≤ maxLen := by decide
  refine M.alc fun g h1 x1 M1 => Hp _ _ x1 ?_
  have M2 : Mem h0 h1 (B ++ (Bn ++ ((g, T_impl_Ring, ⟨[.slice bb ll cc, .int .i64 (0 : Int)]⟩) :: L))) := M1.cnt (fun p => by simp only [cnt_app, cnt_cons, cnt_nil] at *; omega)
  refine O.app (news := [.slice bb ll cc, .int .i64 (0 : Int)]) E_sl_impl_Ring M2 (ys := [⟨List.replicate n 0, 0⟩]) rfl ⟨Bn, [], [.slice bb ll cc, .int .i64 (0 : Int)], [], by simp, by simp, ring_ow (r := ⟨List.replicate n 0, 0⟩) Or, rfl, rfl⟩ (fun j v hj => ?_) (by omega) (by omega) fun b' c' h' B' O' M' => H b' c' h' B' (Ext.refl _) O' (M'.cnt (fun p => by simp only [cnt_app, cnt_cons, cnt_nil] at *; omega))
  rw [add_none, Nat.zero_add, M1.cell .here, ← hj]; simp
theorem spec_NewPipe_c {b s : Option Addr} {c sc : Nat} {n : Int} {op : Bool} {k l k' l' : Nat} (S : SlR (rI .i64) h b 1 c [n]) (Z : SlR (rF .f32) h s 0 sc []) (hk : FW .f32 k k') (hl : FW .f32 l l') :
    CALL prg f_spec_NewPipe #[.slice b 1 c, .slice s 0 sc, .bool op, .float .f32 k, .float .f32 l] (fun u h' => PairR rPipe h h' u (newPipe n op k' l').1 (newPipe n op k' l').2) h := by
  refine spec_NewPipe.call ((Mem.start h).alc fun g1 h1 x1 M => goM M (l00In_c _ _ _ _) fun h2 M => as_b (br_t rfl ?_))
  have key : ∀ ok : Bool, ok = (place k' && inside l' 0 1065353216) → spec_NewPipe.J2 (fun u h' => PairR rPipe h h' u (newPipe n op k' l').1 (newPipe n op k' l').2) b 1 c s 0 sc op k l ⟨g1, 0, none⟩ ok h2 := by
    intro ok hok
    unfold newPipe
    rw [← hok]
    have key14 : ∀ {hh : Heap} {g31 : Nat} {b3 : Option Addr} {c3 : Nat} {B3 : List Blk} {kk : Int} {yy zz : Nat}, inR n 1 1024 = true → ok = true → SlO T_float32 (rF .f32) B3 b3 0 c3 [] → rFilter.ow [] (flC kk yy zz 0 0 0) (onePole k') → Mem h hh ((g31, T_impl_Pipe, ⟨ppC none 0 0 none 0 0 b3 0 c3 kk yy zz op l⟩) :: (B3 ++ [(g1, T_impl_Pipe, ⟨Z_impl_Pipe⟩)])) →
        LOOP (spec_NewPipe.B14 (fun u h' => PairR rPipe h h' u (pipeIf ok n op k' l').1 (pipeIf ok n op k' l').2)) (b, 1, c, ⟨g1, 0, none⟩, ⟨g31, 0, none⟩, (0 : Int)) hh := by
      intro hh g31 b3 c3 B3 kk yy zz hn hok O3 OE M
      have hn2 : 1 ≤ n ∧ n ≤ 1024 := by simpa only [inR, Bool.and_eq_true, decide_eq_true_eq] using hn
      obtain ⟨N, rfl⟩ : ∃ N : Nat, n = (N : Int) := ⟨n.toNat, by omega⟩
      refine loop (fun x hx => ∃ j : Nat, x = (b, 1, c, ⟨g1, 0, none⟩, ⟨g31, 0, none⟩, (j : Int)) ∧ (j = 0 ∧ Mem h hx ((g31, T_impl_Pipe, ⟨ppC none 0 0 none 0 0 b3 0 c3 kk yy zz op l⟩) :: (B3 ++ [(g1, T_impl_Pipe, ⟨Z_impl_Pipe⟩)])) ∨
          j = 1 ∧ ∃ b1 c1 B1 b2 c2 B2, SlO T_impl_Ring rRing B1 b1 1 c1 [⟨List.replicate N 0, 0⟩] ∧ SlO T_impl_Ring rRing B2 b2 1 c2 [⟨List.replicate N 0, 0⟩] ∧ Mem h hx ((g31, T_impl_Pipe, ⟨ppC b1 1 c1 b2 1 c2 b3 0 c3 kk yy zz op l⟩) :: (B1 ++ (B2 ++ (B3 ++ [(g1, T_impl_Pipe, ⟨Z_impl_Pipe⟩)]))))))
        (fun x => (1 - x.2.2.2.2.2).toNat) ⟨0, rfl, .inl ⟨rfl, M⟩⟩ ?_
      rintro x hx ⟨j, rfl, ⟨rfl, M⟩ | ⟨rfl, b1, c1, B1, b2, c2, B2, O1, O2, M⟩⟩
      · unfold spec_NewPipe.B14
        simp only [add_g]
        refine brd (fun _ => ?_) fun hc => by omega
        refine o_l (M.cell .here 0) ((S.ext M.ext).idx (by decide) (by omega) (by omega) fun p Rp => Rp.oI1 ?_)
        show MKS ti_float32 T_float32 (N : Int) (N : Int) _ hx
        refine make_z M (by omega) fun g56 h4 B4 x4 M4 O4 => M.pin1 .here (by show 0 < 13; decide) x4 (siz rfl ?_)
        refine push_ring (n := N) (B := []) SlO.nil M4 O4 (by omega) (fun h' p x H => M.pin1 .here (by show 0 < 13; decide) (x4.trans x) H) fun b1 c1 h5 B1 _ O1 M => as_l (M.st1 (Look.skip .here) (by show 0 < 13; decide) (Upd.skip .here) fun h6 M => ?_)
        have M : Mem h h6 (B1 ++ ((g31, T_impl_Pipe, ⟨ppC b1 1 c1 none 0 0 b3 0 c3 kk yy zz op l⟩) :: (B3 ++ [(g1, T_impl_Pipe, ⟨Z_impl_Pipe⟩)]))) := M
        have M := M.cnt (W := (g31, T_impl_Pipe, ⟨ppC b1 1 c1 none 0 0 b3 0 c3 kk yy zz op l⟩) :: (B1 ++ (B3 ++ [(g1, T_impl_Pipe, ⟨Z_impl_Pipe⟩)]))) (fun p => by simp only [cnt_app, cnt_cons, cnt_nil] at *; omega)
        refine o_l (M.cell .here 1) ((S.ext M.ext).idx (by decide) (by omega) (by omega) fun p Rp => Rp.oI1 ?_)
        show MKS ti_float32 T_float32 (N : Int) (N : Int) _ h6
        refine make_z M (by omega) fun g67 h7 B7 x7 M7 O7 => M.pin1 .here (by show 1 < 13; decide) x7 (siz rfl ?_)
        refine push_ring (n := N) (B := []) SlO.nil M7 O7 (by omega) (fun h' p x H => M.pin1 .here (by show 1 < 13; decide) (x7.trans x) H) fun b2 c2 h8 B2 _ O2 M => as_l (M.st1 (Look.skip .here) (by show 1 < 13; decide) (Upd.skip .here) fun h9 M => ?_)
        have M : Mem h h9 (B2 ++ ((g31, T_impl_Pipe, ⟨ppC b1 1 c1 b2 1 c2 b3 0 c3 kk yy zz op l⟩) :: (B1 ++ (B3 ++ [(g1, T_impl_Pipe, ⟨Z_impl_Pipe⟩)])))) := M
        have M := M.cnt (W := (g31, T_impl_Pipe, ⟨ppC b1 1 c1 b2 1 c2 b3 0 c3 kk yy zz op l⟩) :: (B1 ++ (B2 ++ (B3 ++ [(g1, T_impl_Pipe, ⟨Z_impl_Pipe⟩)])))) (fun p => by simp only [cnt_app, cnt_cons, cnt_nil] at *; omega)
        exact ⟨⟨1, by rw [show (0 : Nat) = 0 from rfl]; rfl, .inr ⟨rfl, b1, c1, B1, b2, c2, B2, O1, O2, M⟩⟩, by decide⟩
      · unfold spec_NewPipe.B14
        refine brd (fun hc => by omega) fun _ => ?_
        have hne : pipeIf ok (N : Int) op k' l' = (pipeOf (N : Int) op k' l', 0) := by rw [pipeIf, hok, hn]; rfl
        rw [hne]
        have O := pipe_ow (x := pipeOf (N : Int) op k' l') O1 O2 O3 OE hl cRest cSlope
        refine M.lda0 .here rfl ?_
        have M := M.cnt (W := (g1, T_impl_Pipe, ⟨Z_impl_Pipe⟩) :: (B1 ++ (B2 ++ B3))) (fun p => by simp only [cnt_app, cnt_cons, cnt_nil] at *; omega)
        exact M.sta0 .here rfl (rPipe.oone O) rfl .here fun h3 M => M.lda0 .here rfl ⟨_, _, rfl, O, M.drop⟩
    have key7 : ∀ {hh : Heap} (ok7 : Bool), ok7 = (ok && inR n 1 1024) → Mem h hh [(g1, T_impl_Pipe, ⟨Z_impl_Pipe⟩)] → LOOP (spec_NewPipe.B7 (fun u h' => PairR rPipe h h' u (pipeIf ok n op k' l').1 (pipeIf ok n op k' l').2)) (b, 1, c, s, 0, sc, op, k, l, ⟨g1, 0, none⟩, ok7, (0 : Int)) hh := by
      intro hh ok7 hok7 M
      refine loop (fun x hx => x = (b, 1, c, s, 0, sc, op, k, l, ⟨g1, 0, none⟩, ok7, (0 : Int)) ∧ hx = hh) (fun _ => 0) ⟨rfl, rfl⟩ ?_
      rintro x hx ⟨rfl, rfl⟩
      unfold spec_NewPipe.B7
      refine brd (fun hc => by omega) fun _ => brN (fun e => pipe_no M (by rw [← hok7, e])) fun e => ?_
      rw [e] at hok7
      have h7 : ok = true ∧ inR n 1 1024 = true := by simpa using hok7.symm
      refine M.alc fun g36 h4 x4 M => append_copy E_sl_float32 (by decide) (flat_F _) (Z.ext M.ext) M (by omega) fun b3 c3 h5 B3 O3 M => as_l ((spec_OnePole_c hk).mono ?_)
      rintro _ h6 ⟨⟨kk, yy, zz, rfl, OE⟩, x6⟩
      refine as_a (siz rfl ((M.grow x6).alc fun g44 h7' x7 M => M.sta0 .here rfl (all_one rfl) rfl .here fun h8 M => ?_))
      exact key14 h7.2 h7.1 O3 OE M
    unfold spec_NewPipe.J2
    refine loop (fun x hx => ∃ j : Nat, j ≤ 1 ∧ x = (b, 1, c, s, 0, sc, op, k, l, ⟨g1, 0, none⟩, (if j = 0 then ok else ok && inR n 1 1024), (j : Int)) ∧ Mem h hx [(g1, T_impl_Pipe, ⟨Z_impl_Pipe⟩)]) (fun x => (1 - x.2.2.2.2.2.2.2.2.2.2.2).toNat) ⟨0, by omega, rfl, M⟩ ?_
    rintro x hx ⟨j, hj, rfl, M⟩
    unfold spec_NewPipe.B3
    by_cases e : j = 0
    · subst e
      rw [if_pos rfl]
      refine brd (fun _ => br (fun e => ?_) fun e => key7 _ (by rw [e]; rfl) M) fun hc => by omega
      unfold spec_NewPipe.J5
      refine (S.ext M.ext).idx (by decide) (by omega) (by omega) fun p Rp => Rp.oI1 ?_
      show CALL prg f_spec_l00In #[.int .i64 n, .int .i64 (1 : Int), .int .i64 (1024 : Int)] _ hx
      refine goM M (l00In_c _ _ _ _) fun h4 M => as_b ⟨⟨1, by omega, by rw [e]; rfl, M⟩, by show (1 - IntKind.i64.wrap (((0 : Nat) : Int) + 1)).toNat < (1 - ((0 : Nat) : Int)).toNat; decide⟩
    · obtain rfl : j = 1 := by omega
      rw [if_neg (by decide)]
      exact brd (fun hc => by omega) fun _ => key7 _ rfl M
  refine br_t rfl ?_
  rw [ord_eq hk fw0, ord_eq hk c1, ord_eq hl fw0, ord_eq hl c1]
  refine br (fun k1 => br (fun k2 => br (fun k3 => key _ (by rw [place, inside, fge, flt, fge, fle, k1, k2, k3]; rfl)) fun k3 => key _ (by rw [place, inside, fge, flt, fge, k1, k2, k3]; rfl)) fun k2 => key _ (by rw [place, fge, flt, k1, k2]; rfl)) fun k1 => key _ (by rw [place, fge, k1]; rfl)
end
end Go.Sx
/- New pipes of one section: the program's. -/
set_option linter.unusedVariables false
set_option linter.unusedSimpArgs false
namespace Go.Sx
open Go.Proofs Ieee
set_option maxRecDepth 100000
set_option maxHeartbeats 4000000

theorem pinM {h0 h h1 h' : Heap} {L L' : List Blk} {g j n : Nat} {cs : Array Value} {p : Prop} (M : Mem h0 h L) (l : Look L g cs) (M' : Mem h1 h' L') (l' : Look L' g cs) (H : p) : PIN h ⟨g, j, none⟩ n h' p :=
  ⟨fun i _ => by rw [add_none, M.cell l, M'.cell l'], H⟩
/-- A ring that lies in a block appended to an own slice of rings. -/
theorem app_ring {h0 hh : Heap} {B Bn L : List Blk} {b bb : Option Addr} {g l c ll cc n : Nat} {xs : List GRing} {K : Value → Heap → Prop} {ty : Nat} (O : SlO T_impl_Ring rRing B b l c xs) (M : Mem h0 hh (B ++ (Bn ++ L))) (lk : Look L g ⟨[.slice bb ll cc, .int .i64 (0 : Int)]⟩)
    (Or : SlO T_float32 (rF .f32) Bn bb ll cc (List.replicate n 0)) (hl : l ≤ 8) (H : ∀ b' c' h' B', SlO T_impl_Ring rRing B' b' (l + 1) c' (xs ++ [⟨List.replicate n 0, 0⟩]) → Mem h0 h' (B' ++ L) → K (.slice b' (l + 1) c') h') :
    SEMV prg (Builtin.append_ #[T_sl_impl_Ring, T_sl_impl_Ring] ty #[.slice b l c, .slice (some ⟨g, 0, none⟩) 1 1]) K hh := by
  have hm : (9 : Nat) ≤ maxLen := by decide
  refine O.app (news := [.slice bb ll cc, .int .i64 (0 : Int)]) E_sl_impl_Ring M (ys := [⟨List.replicate n 0, 0⟩]) rfl ⟨Bn, [], [.slice bb ll cc, .int .i64 (0 : Int)], [], by simp, by simp, ring_ow (r := ⟨List.replicate n 0, 0⟩) Or, rfl, rfl⟩ (fun j v hj => ?_) (by omega) (by omega) H
  rw [add_none, Nat.zero_add, M.cell (Look.skip (Look.skip lk)), ← hj]; simp
theorem length_int64_c (b : Option Addr) (l c : Nat) : Ret prg f_impl_length_int64 #[.slice b l c] (.int .i64 l) := fun h => impl_length_int64.call ⟨rfl, Ext.refl _⟩
section
variable {h : Heap} {x a : Nat}
theorem NewPipe_c {b s : Option Addr} {c sc : Nat} {n : Int} {op : Bool} {k l k' l' : Nat} (S : SlR (rI .i64) h b 1 c [n]) (Z : SlR (rF .f32) h s 0 sc []) (hk : FW .f32 k k') (hl : FW .f32 l l') :
    CALL prg f_impl_NewPipe #[.slice b 1 c, .slice s 0 sc, .bool op, .float .f32 k, .float .f32 l] (fun u h' => PairR rPipe h h' u (newPipe n op k' l').1 (newPipe n op k' l').2) h := by
  refine impl_NewPipe.call ((Mem.start h).alc fun g1 h1 x1 M => goM M (length_int64_c _ _ _ _) fun h1' M => as_i (goM M (within_c _ _ _ _) fun h2 M => as_b (br_t rfl (br_t rfl ?_))))
  have key : ∀ {hh : Heap} (ok : Bool), ok = (place k' && inside l' 0 1065353216) → Mem h hh [(g1, T_impl_Pipe, (⟨Z_impl_Pipe⟩ : Array Value))] → impl_NewPipe.J2 (fun u h' => PairR rPipe h h' u (newPipe n op k' l').1 (newPipe n op k' l').2) b 1 c s 0 sc op k l ⟨g1, 0, none⟩ ok hh := by
    intro hh ok hok M
    unfold newPipe
    rw [← hok]
    unfold impl_NewPipe.J2
    refine loop (fun x hx => x = (b, 1, c, s, 0, sc, op, k, l, ⟨g1, 0, none⟩, ok, s, 0, sc, (0 : Int), (0 : Int)) ∧ hx = hh) (fun _ => 0) ⟨rfl, rfl⟩ ?_
    rintro x hx ⟨rfl, rfl⟩
    unfold impl_NewPipe.B3
    refine brd (fun hc => by omega) fun _ => (Clone_f32_c (Z.ext M.ext) (by omega)).mono ?_
    rintro _ h3 ⟨b3, c3, B3, rfl, O3, N3⟩
    have M := M.join N3
    refine as_l ((OnePole_c hk).mono ?_)
    rintro _ h6 ⟨⟨kk, yy, zz, rfl, OE⟩, x6⟩
    refine as_a (siz rfl ((M.grow x6).alc fun g31 h7' x7 M => M.sta0 .here rfl (all_one rfl) rfl .here fun h8 M => ?_))
    refine loop (fun x hx => ∃ j : Nat, x = (⟨g1, 0, none⟩, ok, ⟨g31, 0, none⟩, b, 1, c, (1 : Int), (j : Int)) ∧ (j = 0 ∧ Mem h hx ((g31, T_impl_Pipe, ⟨ppC none 0 0 none 0 0 b3 0 c3 kk yy zz op l⟩) :: (B3 ++ [(g1, T_impl_Pipe, (⟨Z_impl_Pipe⟩ : Array Value))])) ∨
        j = 1 ∧ ok = true ∧ ∃ (N : Nat) (b1 : Option Addr) (c1 : Nat) (B1 : List Blk) (b2 : Option Addr) (c2 : Nat) (B2 : List Blk), n = (N : Int) ∧ inR n 1 1024 = true ∧ SlO T_impl_Ring rRing B1 b1 1 c1 [⟨List.replicate N 0, 0⟩] ∧ SlO T_impl_Ring rRing B2 b2 1 c2 [⟨List.replicate N 0, 0⟩] ∧ Mem h hx ((g31, T_impl_Pipe, ⟨ppC b1 1 c1 b2 1 c2 b3 0 c3 kk yy zz op l⟩) :: (B1 ++ (B2 ++ (B3 ++ [(g1, T_impl_Pipe, (⟨Z_impl_Pipe⟩ : Array Value))]))))))
      (fun x => (1 - x.2.2.2.2.2.2.2).toNat) ⟨0, rfl, .inl ⟨rfl, M⟩⟩ ?_
    rintro x hx ⟨j, rfl, ⟨rfl, M⟩ | ⟨rfl, hok1, N, b1, c1, B1, b2, c2, B2, rfl, hn, O1, O2, M⟩⟩
    · unfold impl_NewPipe.B9
      refine brd (fun _ => ?_) fun hc => by omega
      refine (S.ext M.ext).idx (by decide) (by omega) (by omega) fun p Rp => Rp.oI1 ?_
      show BIF (!ok) _ (CALL prg f_impl_within #[.int .i64 n, .int .i64 (1 : Int), .int .i64 (1024 : Int)] _ hx)
      have Mo : Mem h hx ((g1, T_impl_Pipe, (⟨Z_impl_Pipe⟩ : Array Value)) :: ((g31, T_impl_Pipe, ⟨ppC none 0 0 none 0 0 b3 0 c3 kk yy zz op l⟩) :: B3)) := M.cnt (fun p => by simp only [cnt_app, cnt_cons, cnt_nil] at *; omega)
      refine brN (fun e => pipe_no Mo (by rw [e]; rfl)) fun e => goM Mo (within_c _ _ _ _) fun h9 Mo => as_b (brN (fun e2 => pipe_no Mo (by rw [e2, Bool.and_false])) fun hn => ?_)
      have hn2 : 1 ≤ n ∧ n ≤ 1024 := by simpa only [inR, Bool.and_eq_true, decide_eq_true_eq] using hn
      obtain ⟨N, rfl⟩ : ∃ N : Nat, n = (N : Int) := ⟨n.toNat, by omega⟩
      unfold impl_NewPipe.J13
      simp only [add_g]
      refine new_ring Mo (by omega) (by omega) fun h10 Ba qa la ca xa M Oa => tup2 (as_a (as_i (M.alc fun ga h11 x11 M => M.sta0 .here rfl (all_one rfl) rfl .here fun h12 M => ?_)))
      refine new_ring M (by omega) (by omega) fun h13 Bb qb lb cb xb M Ob => tup2 (as_a (as_i (M.alc fun gb h14 x14 M => M.sta0 .here rfl (all_one rfl) rfl .here fun h15 M => ?_)))
      -- the two rings, the pipe, the result's place
      have M : Mem h h15 ((gb, T_impl_Ring, ⟨[.slice qb lb cb, .int .i64 (0 : Int)]⟩) :: (ga, T_impl_Ring, ⟨[.slice qa la ca, .int .i64 (0 : Int)]⟩) :: (g31, T_impl_Pipe, ⟨ppC none 0 0 none 0 0 b3 0 c3 kk yy zz op l⟩) :: (g1, T_impl_Pipe, (⟨Z_impl_Pipe⟩ : Array Value)) :: (Ba ++ (Bb ++ B3))) := M.cnt (fun p => by simp only [cnt_app, cnt_cons, cnt_nil] at *; omega)
      refine o_l (M.cell (.there (.there .here)) 0) (M.lda0 (.there .here) rfl (o_l (M.cell (.there (.there .here)) 1) (M.lda0 .here rfl ?_)))
      have fin : ∀ {h' : Heap} {b1 b2 : Option Addr} {c1 c2 : Nat} {B1 B2 X : List Blk}, SlO T_impl_Ring rRing B1 b1 1 c1 [⟨List.replicate N 0, 0⟩] → SlO T_impl_Ring rRing B2 b2 1 c2 [⟨List.replicate N 0, 0⟩] → Mem h h' ((g31, T_impl_Pipe, ⟨ppC none 0 0 none 0 0 b3 0 c3 kk yy zz op l⟩) :: (B1 ++ (B2 ++ (B3 ++ ((g1, T_impl_Pipe, (⟨Z_impl_Pipe⟩ : Array Value)) :: X))))) →
          ST1 h' ⟨g31, 0, none⟩ (.slice b1 1 c1) fun h20 => ST1 h20 ⟨g31, 1, none⟩ (.slice b2 1 c2) fun h21 =>
            ((∃ j : Nat, ((⟨g1, 0, none⟩ : Addr), ok, (⟨g31, 0, none⟩ : Addr), b, 1, c, (1 : Int), IntKind.i64.wrap (((0 : Nat) : Int) + 1)) = (⟨g1, 0, none⟩, ok, ⟨g31, 0, none⟩, b, 1, c, (1 : Int), (j : Int)) ∧ (j = 0 ∧ Mem h h21 ((g31, T_impl_Pipe, ⟨ppC none 0 0 none 0 0 b3 0 c3 kk yy zz op l⟩) :: (B3 ++ [(g1, T_impl_Pipe, (⟨Z_impl_Pipe⟩ : Array Value))])) ∨
              j = 1 ∧ ok = true ∧ ∃ (N' : Nat) (b1 : Option Addr) (c1 : Nat) (B1 : List Blk) (b2 : Option Addr) (c2 : Nat) (B2 : List Blk), (N : Int) = (N' : Int) ∧ inR (N : Int) 1 1024 = true ∧ SlO T_impl_Ring rRing B1 b1 1 c1 [⟨List.replicate N' 0, 0⟩] ∧ SlO T_impl_Ring rRing B2 b2 1 c2 [⟨List.replicate N' 0, 0⟩] ∧ Mem h h21 ((g31, T_impl_Pipe, ⟨ppC b1 1 c1 b2 1 c2 b3 0 c3 kk yy zz op l⟩) :: (B1 ++ (B2 ++ (B3 ++ [(g1, T_impl_Pipe, (⟨Z_impl_Pipe⟩ : Array Value))])))))) ∧
              (1 - IntKind.i64.wrap (((0 : Nat) : Int) + 1)).toNat < (1 - ((0 : Nat) : Int)).toNat) := fun {h' b1 b2 c1 c2 B1 B2 X} O1 O2 M => by
        refine M.st1 .here (by show 0 < 13; decide) .here fun h20 M => M.st1 .here (by show 1 < 13; decide) .here fun h21 M => ?_
        have M : Mem h h21 ((g31, T_impl_Pipe, ⟨ppC b1 1 c1 b2 1 c2 b3 0 c3 kk yy zz op l⟩) :: (B1 ++ (B2 ++ (B3 ++ ((g1, T_impl_Pipe, (⟨Z_impl_Pipe⟩ : Array Value)) :: X))))) := M
        exact ⟨⟨1, rfl, .inr ⟨rfl, e, N, b1, c1, B1, b2, c2, B2, rfl, hn, O1, O2, M.cnt (fun p => by simp only [cnt_app, cnt_cons, cnt_nil] at *; omega)⟩⟩, by decide⟩
      refine ⟨siz rfl (M.alc fun g73 h16 x16 M1 => ?_), siz rfl (M.alc fun g95 h16 x16 M1 => ?_)⟩
      · have M1 : Mem h h16 ((g73, T_impl_Ring, ⟨[.slice qa la ca, .int .i64 (0 : Int)]⟩) :: (gb, T_impl_Ring, ⟨[.slice qb lb cb, .int .i64 (0 : Int)]⟩) :: (ga, T_impl_Ring, ⟨[.slice qa la ca, .int .i64 (0 : Int)]⟩) :: (g31, T_impl_Pipe, ⟨ppC none 0 0 none 0 0 b3 0 c3 kk yy zz op l⟩) :: (g1, T_impl_Pipe, (⟨Z_impl_Pipe⟩ : Array Value)) :: (Ba ++ (Bb ++ B3))) := M1
        refine pinM M .here M1 (.there .here) (pinM M (.there (.there .here)) M1 (.there (.there (.there .here))) (pinM M (.there (.there .here)) M1 (.there (.there (.there .here))) ⟨?_, siz rfl (M1.alc fun g85 h17 x17 M2 => ?_)⟩))
        · refine app_ring (B := []) (Bn := Ba) (L := (g73, T_impl_Ring, ⟨[.slice qa la ca, .int .i64 (0 : Int)]⟩) :: (gb, T_impl_Ring, ⟨[.slice qb lb cb, .int .i64 (0 : Int)]⟩) :: (ga, T_impl_Ring, ⟨[.slice qa la ca, .int .i64 (0 : Int)]⟩) :: (g31, T_impl_Pipe, ⟨ppC none 0 0 none 0 0 b3 0 c3 kk yy zz op l⟩) :: (g1, T_impl_Pipe, (⟨Z_impl_Pipe⟩ : Array Value)) :: (Bb ++ B3)) SlO.nil (M1.cnt (fun p => by simp only [cnt_app, cnt_cons, cnt_nil] at *; omega)) .here Oa (by omega) fun b1 c1 h17 B1 O1 M2 => as_l ?_
          refine pinM M .here M2 (Look.skip (.there .here)) (pinM M (.there (.there .here)) M2 (Look.skip (.there (.there (.there .here)))) (siz rfl (M2.alc fun g78 h18 x18 M3 => ?_)))
          have M3 : Mem h h18 ((g78, T_impl_Ring, ⟨[.slice qb lb cb, .int .i64 (0 : Int)]⟩) :: (B1 ++ ((g73, T_impl_Ring, ⟨[.slice qa la ca, .int .i64 (0 : Int)]⟩) :: (gb, T_impl_Ring, ⟨[.slice qb lb cb, .int .i64 (0 : Int)]⟩) :: (ga, T_impl_Ring, ⟨[.slice qa la ca, .int .i64 (0 : Int)]⟩) :: (g31, T_impl_Pipe, ⟨ppC none 0 0 none 0 0 b3 0 c3 kk yy zz op l⟩) :: (g1, T_impl_Pipe, (⟨Z_impl_Pipe⟩ : Array Value)) :: (Bb ++ B3)))) := M3
          refine pinM M (.there (.there .here)) M3 (.there (Look.skip (.there (.there (.there .here))))) (pinM M (.there .here) M3 (.there (Look.skip (.there (.there .here)))) (pinM M (.there (.there .here)) M3 (.there (Look.skip (.there (.there (.there .here))))) ?_))
          refine app_ring (B := []) (Bn := Bb) (L := (g78, T_impl_Ring, ⟨[.slice qb lb cb, .int .i64 (0 : Int)]⟩) :: (g73, T_impl_Ring, ⟨[.slice qa la ca, .int .i64 (0 : Int)]⟩) :: (gb, T_impl_Ring, ⟨[.slice qb lb cb, .int .i64 (0 : Int)]⟩) :: (ga, T_impl_Ring, ⟨[.slice qa la ca, .int .i64 (0 : Int)]⟩) :: (g31, T_impl_Pipe, ⟨ppC none 0 0 none 0 0 b3 0 c3 kk yy zz op l⟩) :: (g1, T_impl_Pipe, (⟨Z_impl_Pipe⟩ : Array Value)) :: (B1 ++ B3)) SlO.nil (M3.cnt (fun p => by simp only [cnt_app, cnt_cons, cnt_nil] at *; omega)) .here Ob (by omega) fun b2 c2 h19 B2 O2 M4 => as_l ?_
          exact fin O1 O2 (M4.cnt (W := (g31, T_impl_Pipe, ⟨ppC none 0 0 none 0 0 b3 0 c3 kk yy zz op l⟩) :: (B1 ++ (B2 ++ (B3 ++ ((g1, T_impl_Pipe, (⟨Z_impl_Pipe⟩ : Array Value)) :: []))))) (fun p => by simp only [cnt_app, cnt_cons, cnt_nil] at *; omega))
        · have M2 : Mem h h17 ((g85, T_impl_Ring, ⟨[.slice qb lb cb, .int .i64 (0 : Int)]⟩) :: (g73, T_impl_Ring, ⟨[.slice qa la ca, .int .i64 (0 : Int)]⟩) :: (gb, T_impl_Ring, ⟨[.slice qb lb cb, .int .i64 (0 : Int)]⟩) :: (ga, T_impl_Ring, ⟨[.slice qa la ca, .int .i64 (0 : Int)]⟩) :: (g31, T_impl_Pipe, ⟨ppC none 0 0 none 0 0 b3 0 c3 kk yy zz op l⟩) :: (g1, T_impl_Pipe, (⟨Z_impl_Pipe⟩ : Array Value)) :: (Ba ++ (Bb ++ B3))) := M2
          refine pinM M (.there (.there .here)) M2 (.there (.there (.there (.there .here)))) (pinM M (.there .here) M2 (.there (.there (.there .here))) (pinM M (.there (.there .here)) M2 (.there (.there (.there (.there .here)))) ?_))
          refine app_ring (B := []) (Bn := Ba) (L := (g73, T_impl_Ring, ⟨[.slice qa la ca, .int .i64 (0 : Int)]⟩) :: (g85, T_impl_Ring, ⟨[.slice qb lb cb, .int .i64 (0 : Int)]⟩) :: (gb, T_impl_Ring, ⟨[.slice qb lb cb, .int .i64 (0 : Int)]⟩) :: (ga, T_impl_Ring, ⟨[.slice qa la ca, .int .i64 (0 : Int)]⟩) :: (g31, T_impl_Pipe, ⟨ppC none 0 0 none 0 0 b3 0 c3 kk yy zz op l⟩) :: (g1, T_impl_Pipe, (⟨Z_impl_Pipe⟩ : Array Value)) :: (Bb ++ B3)) SlO.nil (M2.cnt (fun p => by simp only [cnt_app, cnt_cons, cnt_nil] at *; omega)) .here Oa (by omega) fun b1 c1 h18 B1 O1 M3 => as_l ?_
          refine pinM M .here M3 (Look.skip (.there (.there .here))) (pinM M (.there (.there .here)) M3 (Look.skip (.there (.there (.there (.there .here))))) ?_)
          refine app_ring (B := []) (Bn := Bb) (L := (g85, T_impl_Ring, ⟨[.slice qb lb cb, .int .i64 (0 : Int)]⟩) :: (g73, T_impl_Ring, ⟨[.slice qa la ca, .int .i64 (0 : Int)]⟩) :: (gb, T_impl_Ring, ⟨[.slice qb lb cb, .int .i64 (0 : Int)]⟩) :: (ga, T_impl_Ring, ⟨[.slice qa la ca, .int .i64 (0 : Int)]⟩) :: (g31, T_impl_Pipe, ⟨ppC none 0 0 none 0 0 b3 0 c3 kk yy zz op l⟩) :: (g1, T_impl_Pipe, (⟨Z_impl_Pipe⟩ : Array Value)) :: (B1 ++ B3)) SlO.nil (M3.cnt (fun p => by simp only [cnt_app, cnt_cons, cnt_nil] at *; omega)) .here Ob (by omega) fun b2 c2 h19 B2 O2 M4 => as_l ?_
          exact fin O1 O2 (M4.cnt (W := (g31, T_impl_Pipe, ⟨ppC none 0 0 none 0 0 b3 0 c3 kk yy zz op l⟩) :: (B1 ++ (B2 ++ (B3 ++ ((g1, T_impl_Pipe, (⟨Z_impl_Pipe⟩ : Array Value)) :: []))))) (fun p => by simp only [cnt_app, cnt_cons, cnt_nil] at *; omega))
      · have M1 : Mem h h16 ((g95, T_impl_Ring, ⟨[.slice qb lb cb, .int .i64 (0 : Int)]⟩) :: (gb, T_impl_Ring, ⟨[.slice qb lb cb, .int .i64 (0 : Int)]⟩) :: (ga, T_impl_Ring, ⟨[.slice qa la ca, .int .i64 (0 : Int)]⟩) :: (g31, T_impl_Pipe, ⟨ppC none 0 0 none 0 0 b3 0 c3 kk yy zz op l⟩) :: (g1, T_impl_Pipe, (⟨Z_impl_Pipe⟩ : Array Value)) :: (Ba ++ (Bb ++ B3))) := M1
        refine pinM M (.there (.there .here)) M1 (.there (.there (.there .here))) (pinM M (.there .here) M1 (.there (.there .here)) (pinM M (.there (.there .here)) M1 (.there (.there (.there .here))) (siz rfl (M1.alc fun g97 h17 x17 M2 => ?_))))
        have M2 : Mem h h17 ((g97, T_impl_Ring, ⟨[.slice qa la ca, .int .i64 (0 : Int)]⟩) :: (g95, T_impl_Ring, ⟨[.slice qb lb cb, .int .i64 (0 : Int)]⟩) :: (gb, T_impl_Ring, ⟨[.slice qb lb cb, .int .i64 (0 : Int)]⟩) :: (ga, T_impl_Ring, ⟨[.slice qa la ca, .int .i64 (0 : Int)]⟩) :: (g31, T_impl_Pipe, ⟨ppC none 0 0 none 0 0 b3 0 c3 kk yy zz op l⟩) :: (g1, T_impl_Pipe, (⟨Z_impl_Pipe⟩ : Array Value)) :: (Ba ++ (Bb ++ B3))) := M2
        refine pinM M .here M2 (.there (.there .here)) (pinM M (.there (.there .here)) M2 (.there (.there (.there (.there .here)))) (pinM M (.there (.there .here)) M2 (.there (.there (.there (.there .here)))) ?_))
        refine app_ring (B := []) (Bn := Ba) (L := (g97, T_impl_Ring, ⟨[.slice qa la ca, .int .i64 (0 : Int)]⟩) :: (g95, T_impl_Ring, ⟨[.slice qb lb cb, .int .i64 (0 : Int)]⟩) :: (gb, T_impl_Ring, ⟨[.slice qb lb cb, .int .i64 (0 : Int)]⟩) :: (ga, T_impl_Ring, ⟨[.slice qa la ca, .int .i64 (0 : Int)]⟩) :: (g31, T_impl_Pipe, ⟨ppC none 0 0 none 0 0 b3 0 c3 kk yy zz op l⟩) :: (g1, T_impl_Pipe, (⟨Z_impl_Pipe⟩ : Array Value)) :: (Bb ++ B3)) SlO.nil (M2.cnt (fun p => by simp only [cnt_app, cnt_cons, cnt_nil] at *; omega)) .here Oa (by omega) fun b1 c1 h18 B1 O1 M3 => as_l ?_
        refine pinM M .here M3 (Look.skip (.there (.there .here))) (pinM M (.there (.there .here)) M3 (Look.skip (.there (.there (.there (.there .here))))) ?_)
        refine app_ring (B := []) (Bn := Bb) (L := (g95, T_impl_Ring, ⟨[.slice qb lb cb, .int .i64 (0 : Int)]⟩) :: (g97, T_impl_Ring, ⟨[.slice qa la ca, .int .i64 (0 : Int)]⟩) :: (gb, T_impl_Ring, ⟨[.slice qb lb cb, .int .i64 (0 : Int)]⟩) :: (ga, T_impl_Ring, ⟨[.slice qa la ca, .int .i64 (0 : Int)]⟩) :: (g31, T_impl_Pipe, ⟨ppC none 0 0 none 0 0 b3 0 c3 kk yy zz op l⟩) :: (g1, T_impl_Pipe, (⟨Z_impl_Pipe⟩ : Array Value)) :: (B1 ++ B3)) SlO.nil (M3.cnt (fun p => by simp only [cnt_app, cnt_cons, cnt_nil] at *; omega)) .here Ob (by omega) fun b2 c2 h19 B2 O2 M4 => as_l ?_
        exact fin O1 O2 (M4.cnt (W := (g31, T_impl_Pipe, ⟨ppC none 0 0 none 0 0 b3 0 c3 kk yy zz op l⟩) :: (B1 ++ (B2 ++ (B3 ++ ((g1, T_impl_Pipe, (⟨Z_impl_Pipe⟩ : Array Value)) :: []))))) (fun p => by simp only [cnt_app, cnt_cons, cnt_nil] at *; omega))
    · unfold impl_NewPipe.B9
      refine brd (fun hc => by omega) fun _ => br_f (by rw [hok1]; rfl) ?_
      have hne : pipeIf ok (N : Int) op k' l' = (pipeOf (N : Int) op k' l', 0) := by rw [pipeIf, hok1, hn]; rfl
      rw [hne]
      have O := pipe_ow (x := pipeOf (N : Int) op k' l') O1 O2 O3 OE hl cRest cSlope
      refine M.lda0 .here rfl ?_
      have M := M.cnt (W := (g1, T_impl_Pipe, (⟨Z_impl_Pipe⟩ : Array Value)) :: (B1 ++ (B2 ++ B3))) (fun p => by simp only [cnt_app, cnt_cons, cnt_nil] at *; omega)
      exact M.sta0 .here rfl (rPipe.oone O) rfl .here fun h3 M => M.lda0 .here rfl ⟨_, _, rfl, O, M.drop⟩
  refine goM M (isKeep_c hk _) fun h3 M => as_b (br (fun k1 => goM M (inside_c hl fw0 c1 _) fun h4 M => as_b (key _ (by rw [k1]; rfl) M)) fun k1 => key _ (by rw [k1]; rfl) M)
end
end Go.Sx
