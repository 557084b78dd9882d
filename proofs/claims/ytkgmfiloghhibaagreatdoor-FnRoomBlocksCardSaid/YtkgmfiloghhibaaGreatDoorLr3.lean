/- How Pipe lie in cells; their parts; given ones opened. -/
import Derived.Test.YtkgmfiloghhibaaGreatDoorLg
import Derived.Test.YtkgmfiloghhibaaGreatDoorLp4
import Derived.Test.YtkgmfiloghhibaaGreatDoorTabE
import Derived.Test.YtkgmfiloghhibaaGreatDoorLk4
import Derived.Test.YtkgmfiloghhibaaGreatDoorTab
import Derived.Laws.BytesString
import Derived.Lib.ItoaLen
import Derived.Test.YtkgmfiloghhibaaGreatDoorLx1
import Derived.Sort.Grow
import Derived.Deep.Draws
set_option linter.unusedVariables false
set_option linter.unusedSimpArgs false
namespace Go.Sx
open Go.Proofs
def rPipe : Rep GPipe := (Rep.seq (rSl T_impl_Ring rRing) (Rep.seq (rSl T_impl_Ring rRing) (Rep.seq (rSl T_float32 (rF .f32)) (Rep.seq rFilter (Rep.seq rB (Rep.seq (rF .f32) (Rep.seq (rF .f32) ((rF .f32))))))))).via fun a => (a.Right, a.Left, a.Scatter, a.End, a.Open, a.Loss, a.Rest, a.Slope)
theorem foc_Pipe_Right : Foc rPipe (rSl T_impl_Ring rRing) 0 (fun a => a.Right) (fun a b => { a with Right := b }) := (Foc.via (f := fun a : GPipe => (a.Right, a.Left, a.Scatter, a.End, a.Open, a.Loss, a.Rest, a.Slope)) (get' := fun a => a.Right) (put' := fun a b => { a with Right := b }) (Foc.fst (Foc.here (rSl T_impl_Ring rRing))) (fun _ => rfl) (fun _ _ => rfl)).at rfl
theorem foc_Pipe_Left : Foc rPipe (rSl T_impl_Ring rRing) 1 (fun a => a.Left) (fun a b => { a with Left := b }) := (Foc.via (f := fun a : GPipe => (a.Right, a.Left, a.Scatter, a.End, a.Open, a.Loss, a.Rest, a.Slope)) (get' := fun a => a.Left) (put' := fun a b => { a with Left := b }) (Foc.snd (Foc.fst (Foc.here (rSl T_impl_Ring rRing)))) (fun _ => rfl) (fun _ _ => rfl)).at rfl
theorem foc_Pipe_Scatter : Foc rPipe (rSl T_float32 (rF .f32)) 2 (fun a => a.Scatter) (fun a b => { a with Scatter := b }) := (Foc.via (f := fun a : GPipe => (a.Right, a.Left, a.Scatter, a.End, a.Open, a.Loss, a.Rest, a.Slope)) (get' := fun a => a.Scatter) (put' := fun a b => { a with Scatter := b }) (Foc.snd (Foc.snd (Foc.fst (Foc.here (rSl T_float32 (rF .f32)))))) (fun _ => rfl) (fun _ _ => rfl)).at rfl
theorem foc_Pipe_End : Foc rPipe rFilter 3 (fun a => a.End) (fun a b => { a with End := b }) := (Foc.via (f := fun a : GPipe => (a.Right, a.Left, a.Scatter, a.End, a.Open, a.Loss, a.Rest, a.Slope)) (get' := fun a => a.End) (put' := fun a b => { a with End := b }) (Foc.snd (Foc.snd (Foc.snd (Foc.fst (Foc.here rFilter))))) (fun _ => rfl) (fun _ _ => rfl)).at rfl
theorem foc_Pipe_Open : Foc rPipe rB 9 (fun a => a.Open) (fun a b => { a with Open := b }) := (Foc.via (f := fun a : GPipe => (a.Right, a.Left, a.Scatter, a.End, a.Open, a.Loss, a.Rest, a.Slope)) (get' := fun a => a.Open) (put' := fun a b => { a with Open := b }) (Foc.snd (Foc.snd (Foc.snd (Foc.snd (Foc.fst (Foc.here rB)))))) (fun _ => rfl) (fun _ _ => rfl)).at rfl
theorem foc_Pipe_Loss : Foc rPipe (rF .f32) 10 (fun a => a.Loss) (fun a b => { a with Loss := b }) := (Foc.via (f := fun a : GPipe => (a.Right, a.Left, a.Scatter, a.End, a.Open, a.Loss, a.Rest, a.Slope)) (get' := fun a => a.Loss) (put' := fun a b => { a with Loss := b }) (Foc.snd (Foc.snd (Foc.snd (Foc.snd (Foc.snd (Foc.fst (Foc.here (rF .f32)))))))) (fun _ => rfl) (fun _ _ => rfl)).at rfl
theorem foc_Pipe_Rest : Foc rPipe (rF .f32) 11 (fun a => a.Rest) (fun a b => { a with Rest := b }) := (Foc.via (f := fun a : GPipe => (a.Right, a.Left, a.Scatter, a.End, a.Open, a.Loss, a.Rest, a.Slope)) (get' := fun a => a.Rest) (put' := fun a b => { a with Rest := b }) (Foc.snd (Foc.snd (Foc.snd (Foc.snd (Foc.snd (Foc.snd (Foc.fst (Foc.here (rF .f32))))))))) (fun _ => rfl) (fun _ _ => rfl)).at rfl
theorem foc_Pipe_Slope : Foc rPipe (rF .f32) 12 (fun a => a.Slope) (fun a b => { a with Slope := b }) := (Foc.via (f := fun a : GPipe => (a.Right, a.Left, a.Scatter, a.End, a.Open, a.Loss, a.Rest, a.Slope)) (get' := fun a => a.Slope) (put' := fun a b => { a with Slope := b }) (Foc.snd (Foc.snd (Foc.snd (Foc.snd (Foc.snd (Foc.snd (Foc.snd (Foc.here (rF .f32))))))))) (fun _ => rfl) (fun _ _ => rfl)).at rfl
def z_Pipe : GPipe := ⟨[], [], [], z_Filter, false, 0, 0, 0⟩
instance lf_Pipe_0 : FocC rPipe 0 (rSl T_impl_Ring rRing) (fun a => a.Right) (fun a b => { a with Right := b }) := ⟨Foc.at foc_Pipe_Right rfl⟩
instance lf_Pipe_1 : FocC rPipe 1 (rSl T_impl_Ring rRing) (fun a => a.Left) (fun a b => { a with Left := b }) := ⟨Foc.at foc_Pipe_Left rfl⟩
instance lf_Pipe_2 : FocC rPipe 2 (rSl T_float32 (rF .f32)) (fun a => a.Scatter) (fun a b => { a with Scatter := b }) := ⟨Foc.at foc_Pipe_Scatter rfl⟩
instance lf_Pipe_3 : FocC rPipe 3 (rI .i64) (fun a => a.End.Kind) (fun a b => { a with End := { a.End with Kind := b } }) := ⟨Foc.at (foc_Pipe_End.trans lf_Filter_0.f) rfl⟩
instance lf_Pipe_4 : FocC rPipe 4 (rF .f32) (fun a => a.End.C[0]!) (fun a b => { a with End := { a.End with C := a.End.C.set 0 b } }) := ⟨Foc.at (foc_Pipe_End.trans lf_Filter_1.f) rfl⟩
instance lf_Pipe_5 : FocC rPipe 5 (rF .f32) (fun a => a.End.C[1]!) (fun a b => { a with End := { a.End with C := a.End.C.set 1 b } }) := ⟨Foc.at (foc_Pipe_End.trans lf_Filter_2.f) rfl⟩
instance lf_Pipe_6 : FocC rPipe 6 (rF .f32) (fun a => a.End.C[2]!) (fun a b => { a with End := { a.End with C := a.End.C.set 2 b } }) := ⟨Foc.at (foc_Pipe_End.trans lf_Filter_3.f) rfl⟩
instance lf_Pipe_7 : FocC rPipe 7 (rF .f32) (fun a => a.End.S[0]!) (fun a b => { a with End := { a.End with S := a.End.S.set 0 b } }) := ⟨Foc.at (foc_Pipe_End.trans lf_Filter_4.f) rfl⟩
instance lf_Pipe_8 : FocC rPipe 8 (rF .f32) (fun a => a.End.S[1]!) (fun a b => { a with End := { a.End with S := a.End.S.set 1 b } }) := ⟨Foc.at (foc_Pipe_End.trans lf_Filter_5.f) rfl⟩
instance lf_Pipe_9 : FocC rPipe 9 rB (fun a => a.Open) (fun a b => { a with Open := b }) := ⟨Foc.at foc_Pipe_Open rfl⟩
instance lf_Pipe_10 : FocC rPipe 10 (rF .f32) (fun a => a.Loss) (fun a b => { a with Loss := b }) := ⟨Foc.at foc_Pipe_Loss rfl⟩
instance lf_Pipe_11 : FocC rPipe 11 (rF .f32) (fun a => a.Rest) (fun a b => { a with Rest := b }) := ⟨Foc.at foc_Pipe_Rest rfl⟩
instance lf_Pipe_12 : FocC rPipe 12 (rF .f32) (fun a => a.Slope) (fun a b => { a with Slope := b }) := ⟨Foc.at foc_Pipe_Slope rfl⟩
end Go.Sx
/- Floats in blocks beside own data; blocks made sample by sample. -/
set_option linter.unusedVariables false
set_option linter.unusedSimpArgs false
namespace Go.Sx
open Go.Proofs
set_option maxRecDepth 100000
set_option maxHeartbeats 1000000

section
variable {h0 h : Heap} {q : Addr} {F : Fr} {L : List Blk} {x a : Nat}
/-- A cell of a block beside own data written. -/
theorem Pt.blk1 {α : Type} {r : Rep α} {d : α} {g T j : Nat} {cs : Array Value} {v : Value} {L' : List Blk} {K : Heap → Prop} (P : Pt r h0 h q F L d) (l : Look L g cs) (hj : j < cs.size) (k : Pick L g T cs L')
    (H : ∀ h', Pt r h0 h' q F ((g, T, cs.setIfInBounds j v) :: L') d → K h') : ST1 h ⟨g, j, none⟩ v K := by
  obtain ⟨e, mid, B, M, O⟩ := P
  have N := M.pick (.there (Pick.skip k))
  exact N.st1 .here hj .here fun h' M' => H h' ⟨e, mid, B, M'.cnt fun p => by simp only [cnt_app, cnt_cons, cnt_nil]; omega, O⟩
/-- A float put into a list of floats. -/
theorem rds_set {k : FloatKind} {y b : Nat} (hy : FW k y b) : ∀ {xs : List Nat} {vs : List Value} {i : Nat}, rds (rF k) h vs xs → rds (rF k) h (vs.set i (.float k y)) (xs.set i b)
  | [], vs, i, R => by
    obtain rfl : vs = [] := R
    simp [rds]
  | a :: xs, vs, i, R => by
    obtain ⟨v1, v2, rfl, ⟨z, rfl, hz⟩, R2⟩ := R
    cases i with
    | zero => exact ⟨[.float k y], v2, rfl, ⟨y, rfl, hy⟩, R2⟩
    | succ i => exact ⟨[.float k z], v2.set i (.float k y), rfl, ⟨z, rfl, hz⟩, rds_set hy R2⟩
theorem arr_set {k : FloatKind} {y b n i : Nat} {cs : Array Value} {xs : List Nat} (hy : FW k y b) (R : (rArr n (rF k)).rd h cs.toList xs) : (rArr n (rF k)).rd h (cs.setIfInBounds i (.float k y)).toList (xs.set i b) :=
  ⟨by rw [List.length_set]; exact R.1, by rw [Array.toList_setIfInBounds]; exact rds_set hy R.2⟩
theorem arr_oF {k : FloatKind} {n i : Nat} {cs : Array Value} {xs : List Nat} {K : Nat → Prop} (R : (rArr n (rF k)).rd h cs.toList xs) (hi : i < n) (H : ∀ y, FW k y xs[i]! → K y) : oF k cs[i * 1]? K := by
  obtain ⟨v, e, y, e2, hy⟩ := rd_cell R (Foc.arr (rF k) i hi) rfl
  obtain rfl : v = .float k y := by simpa using e2
  have e : cs[i * 1]? = some (.float k y) := e
  rw [e]
  simpa [oF, asF] using H y hy
end
theorem rdsF_any {k : FloatKind} {h h' : Heap} : ∀ {xs : List Nat} {vs : List Value}, rds (rF k) h vs xs → rds (rF k) h' vs xs
  | [], vs, R => R
  | a :: xs, vs, R => by
    obtain ⟨v1, v2, rfl, R1, R2⟩ := R
    exact ⟨v1, v2, rfl, R1, rdsF_any R2⟩
/-- n floats, wherever they lie. -/
def FA (n : Nat) (cs : Array Value) (xs : List Nat) : Prop := (rArr n (rF .f32)).rd #[] cs.toList xs
section
variable {n : Nat} {cs : Array Value} {xs : List Nat}
theorem FA.rd (R : FA n cs xs) (h : Heap) : (rArr n (rF .f32)).rd h cs.toList xs := ⟨R.1, rdsF_any R.2⟩
theorem FA.of {h : Heap} (R : (rArr n (rF .f32)).rd h cs.toList xs) : FA n cs xs := ⟨R.1, rdsF_any R.2⟩
theorem FA.size (R : FA n cs xs) : cs.size = n := by have := rsz R rfl; rw [this]; exact Nat.mul_one n
theorem FA.one (R : FA n cs xs) : ∀ v ∈ cs.toList, v.oneCell' = true := (rArr n (rF .f32)).rone R
end
def zeros16 : List Nat := List.replicate 16 0
theorem FA.zero : FA 16 ⟨Z_impl_Block⟩ zeros16 := ⟨rfl, rdsF_any (h := #[]) ((zeros_fl 16).look (Mem.start #[]) (List.Sublist.refl _))⟩
section
variable {h0 h : Heap} {q : Addr} {F : Fr} {L : List Blk} {n : Nat}
theorem Pt.blkA {α : Type} {r : Rep α} {d : α} {g T i y b : Nat} {cs : Array Value} {xs : List Nat} {L' : List Blk} {K : Heap → Prop} (P : Pt r h0 h q F L d) (l : Look L g cs) (k : Pick L g T cs L') (R : FA n cs xs) (hi : i < n) (hy : FW .f32 y b)
    (H : ∀ h' cs', FA n cs' (xs.set i b) → Pt r h0 h' q F ((g, T, cs') :: L') d → K h') : ST1 h ((⟨g, 0, none⟩ : Addr).add (i * 1)) (.float .f32 y) K := by
  rw [add_none, Nat.zero_add]
  refine P.blk1 l (by rw [R.size]; omega) k fun h' P' => H h' _ ?_ P'
  rw [Nat.mul_one]
  exact arr_set hy R
theorem Look.oA {g i : Nat} {cs : Array Value} {xs : List Nat} {K : Nat → Prop} (l : Look L g cs) (M : Mem h0 h L) (R : FA n cs xs) (hi : i < n) (H : ∀ y, FW .f32 y xs[i]! → K y) : Sx.oF .f32 (cell h ((⟨g, 0, none⟩ : Addr).add (i * 1))) K :=
  ((M.rdp l (R.rd h)).elem (i := i) hi).oF1 H
theorem Mem.pin2 {h0' h' : Heap} {L' : List Blk} {g m : Nat} {cs : Array Value} {p : Prop} (M : Mem h0 h L) (l : Look L g cs) (M' : Mem h0' h' L') (l' : Look L' g cs) (H : p) : PIN h ⟨g, 0, none⟩ m h' p :=
  ⟨fun j _ => by rw [add_g, M.cell l, M'.cell l'], H⟩
end
theorem mapI16 {n : Nat} (f : Nat → Nat) (h : n < 16) : (mapI f zeros16 n).set n (f n) = mapI f zeros16 (n + 1) := mapI_set h
section
variable {h0 h : Heap} {q : Addr} {F : Fr} {L : List Blk} {n : Nat}
theorem Pt.blkW {α : Type} {r : Rep α} {d : α} {g T : Nat} {cs vs : Array Value} {L' : List Blk} {K : Heap → Prop} (P : Pt r h0 h q F L d) (k : Pick L g T cs L') (hn : cs.size = n) (hv : vs.size = n) (ho : ∀ v ∈ vs.toList, v.oneCell' = true)
    (H : ∀ h', Pt r h0 h' q F ((g, T, vs) :: L') d → K h') : STA n h ⟨g, 0, none⟩ vs K := by
  obtain ⟨e, mid, B, M, O⟩ := P
  have N := M.pick (.there (Pick.skip k))
  exact N.sta0 .here hv ho hn .here fun h' M' => H h' ⟨e, mid, B, M'.cnt fun p => by simp only [cnt_app, cnt_cons, cnt_nil]; omega, O⟩
/-- A block made sample by sample, by a function that moves own data on. -/
theorem made_c {α : Type} {r : Rep α} {X : Nat → α} {f : Nat → Nat} {of : Value} (P : Pt r h0 h q F L (X 0))
    (C : ∀ (n : Nat) (hh : Heap) (W : List Blk), n < 16 → Pt r h0 hh q F (W ++ L) (X n) → CALLD prg of #[.int .i64 (n : Int)] (fun u h' => (∃ y, u = .float .f32 y ∧ FW .f32 y (f n)) ∧ Pt r h0 h' q F (W ++ L) (X (n + 1))) hh) :
    CALL prg f_impl_made #[of] (fun u h' => ∃ cb, u = .agg cb ∧ FA 16 cb (mapI f zeros16 16) ∧ Pt r h0 h' q F L (X 16)) h := by
  refine impl_made.call ((Mem.start h).alc fun g1 h1 x1 N => N.alc fun g2 h2 x2 N => ?_)
  have P : Pt r h0 h2 q F ((g2, T_impl_Block, ⟨Z_impl_Block⟩) :: (g1, T_impl_Block, ⟨Z_impl_Block⟩) :: L) (X 0) := P.join N
  refine loop (fun y hh => ∃ (n : Nat) (co : Array Value), y = (of, ⟨g1, 0, none⟩, ⟨g2, 0, none⟩, (n : Int)) ∧ n ≤ 16 ∧ FA 16 co (mapI f zeros16 n) ∧ Pt r h0 hh q F ((g2, T_impl_Block, co) :: (g1, T_impl_Block, ⟨Z_impl_Block⟩) :: L) (X n))
    (fun y => (16 - y.2.2.2).toNat) ⟨0, _, rfl, by omega, by rw [mapI_zero]; exact FA.zero, P⟩ ?_
  rintro y hh ⟨n, co, rfl, hn, Fo, P⟩
  refine brd (fun hc => ?_) fun hc => ?_
  · refine (C n hh [(g2, T_impl_Block, co), (g1, T_impl_Block, ⟨Z_impl_Block⟩)] (by omega) P).mono ?_
    rintro _ h8 ⟨⟨y, rfl, hy⟩, P⟩
    refine as_f (idx (by omega) (by omega) (Pt.blkA P .here .here Fo (i := n) (by omega) hy fun h9 co' Fo' P => ⟨⟨n + 1, co', by rw [wrap64_succ (by omega)], by omega, ?_, P⟩, by rw [wrap64_succ (by omega)]; show _ < _; simp; omega⟩))
    rw [← mapI16 f (by omega)]; exact Fo'
  obtain rfl : n = 16 := by omega
  refine P.mem.lda0 .here Fo.size (P.blkW (.there .here) rfl Fo.size Fo.one fun h3 P => P.mem.lda0 .here Fo.size ?_)
  exact ⟨co, rfl, Fo, P.sub (.cons _ (.cons _ (List.Sublist.refl _)))⟩
end
end Go.Sx
/- How String, Bow lie in cells; their parts; given ones opened. -/
set_option linter.unusedVariables false
set_option linter.unusedSimpArgs false
namespace Go.Sx
open Go.Proofs
def z_String : GString := ⟨z_Ring, z_Filter, z_Filter, 0⟩
def z_Bow : GBow := ⟨z_Ring, z_Ring, z_Filter, 0, 0⟩
end Go.Sx
/- How Tuning, Instrument, Event, Score lie in cells; their parts; given ones opened. -/
set_option linter.unusedVariables false
set_option linter.unusedSimpArgs false
namespace Go.Sx
open Go.Proofs
def rEvent : Rep GEvent := (Rep.seq (rI .i64) (Rep.seq (rI .i64) (Rep.seq (rI .i64) (Rep.seq (rI .i64) (Rep.seq (rI .i64) ((rF .f32))))))).via fun a => (a.At, a.Kind, a.Note, a.Instrument, a.Key, a.Force)
theorem foc_Event_At : Foc rEvent (rI .i64) 0 (fun a => a.At) (fun a b => { a with At := b }) := (Foc.via (f := fun a : GEvent => (a.At, a.Kind, a.Note, a.Instrument, a.Key, a.Force)) (get' := fun a => a.At) (put' := fun a b => { a with At := b }) (Foc.fst (Foc.here (rI .i64))) (fun _ => rfl) (fun _ _ => rfl)).at rfl
theorem foc_Event_Kind : Foc rEvent (rI .i64) 1 (fun a => a.Kind) (fun a b => { a with Kind := b }) := (Foc.via (f := fun a : GEvent => (a.At, a.Kind, a.Note, a.Instrument, a.Key, a.Force)) (get' := fun a => a.Kind) (put' := fun a b => { a with Kind := b }) (Foc.snd (Foc.fst (Foc.here (rI .i64)))) (fun _ => rfl) (fun _ _ => rfl)).at rfl
theorem foc_Event_Note : Foc rEvent (rI .i64) 2 (fun a => a.Note) (fun a b => { a with Note := b }) := (Foc.via (f := fun a : GEvent => (a.At, a.Kind, a.Note, a.Instrument, a.Key, a.Force)) (get' := fun a => a.Note) (put' := fun a b => { a with Note := b }) (Foc.snd (Foc.snd (Foc.fst (Foc.here (rI .i64))))) (fun _ => rfl) (fun _ _ => rfl)).at rfl
theorem foc_Event_Instrument : Foc rEvent (rI .i64) 3 (fun a => a.Instrument) (fun a b => { a with Instrument := b }) := (Foc.via (f := fun a : GEvent => (a.At, a.Kind, a.Note, a.Instrument, a.Key, a.Force)) (get' := fun a => a.Instrument) (put' := fun a b => { a with Instrument := b }) (Foc.snd (Foc.snd (Foc.snd (Foc.fst (Foc.here (rI .i64)))))) (fun _ => rfl) (fun _ _ => rfl)).at rfl
theorem foc_Event_Key : Foc rEvent (rI .i64) 4 (fun a => a.Key) (fun a b => { a with Key := b }) := (Foc.via (f := fun a : GEvent => (a.At, a.Kind, a.Note, a.Instrument, a.Key, a.Force)) (get' := fun a => a.Key) (put' := fun a b => { a with Key := b }) (Foc.snd (Foc.snd (Foc.snd (Foc.snd (Foc.fst (Foc.here (rI .i64))))))) (fun _ => rfl) (fun _ _ => rfl)).at rfl
theorem foc_Event_Force : Foc rEvent (rF .f32) 5 (fun a => a.Force) (fun a b => { a with Force := b }) := (Foc.via (f := fun a : GEvent => (a.At, a.Kind, a.Note, a.Instrument, a.Key, a.Force)) (get' := fun a => a.Force) (put' := fun a b => { a with Force := b }) (Foc.snd (Foc.snd (Foc.snd (Foc.snd (Foc.snd (Foc.here (rF .f32))))))) (fun _ => rfl) (fun _ _ => rfl)).at rfl
def z_Event : GEvent := ⟨0, 0, 0, 0, 0, 0⟩
theorem zow_Event : rEvent.ow [] [Value.int .i64 (0 : Int), Value.int .i64 (0 : Int), Value.int .i64 (0 : Int), Value.int .i64 (0 : Int), Value.int .i64 (0 : Int), Value.float .f32 0] z_Event := ⟨[], [], [Value.int .i64 (0 : Int)], [Value.int .i64 (0 : Int), Value.int .i64 (0 : Int), Value.int .i64 (0 : Int), Value.int .i64 (0 : Int), Value.float .f32 0], rfl, rfl, ⟨rfl, rfl⟩, ⟨[], [], [Value.int .i64 (0 : Int)], [Value.int .i64 (0 : Int), Value.int .i64 (0 : Int), Value.int .i64 (0 : Int), Value.float .f32 0], rfl, rfl, ⟨rfl, rfl⟩, ⟨[], [], [Value.int .i64 (0 : Int)], [Value.int .i64 (0 : Int), Value.int .i64 (0 : Int), Value.float .f32 0], rfl, rfl, ⟨rfl, rfl⟩, ⟨[], [], [Value.int .i64 (0 : Int)], [Value.int .i64 (0 : Int), Value.float .f32 0], rfl, rfl, ⟨rfl, rfl⟩, ⟨[], [], [Value.int .i64 (0 : Int)], [Value.float .f32 0], rfl, rfl, ⟨rfl, rfl⟩, ⟨rfl, 0, rfl, fw_c32 (by decide) (by decide)⟩⟩⟩⟩⟩⟩
instance lf_Event_0 : FocC rEvent 0 (rI .i64) (fun a => a.At) (fun a b => { a with At := b }) := ⟨Foc.at foc_Event_At rfl⟩
instance lf_Event_1 : FocC rEvent 1 (rI .i64) (fun a => a.Kind) (fun a b => { a with Kind := b }) := ⟨Foc.at foc_Event_Kind rfl⟩
instance lf_Event_2 : FocC rEvent 2 (rI .i64) (fun a => a.Note) (fun a b => { a with Note := b }) := ⟨Foc.at foc_Event_Note rfl⟩
instance lf_Event_3 : FocC rEvent 3 (rI .i64) (fun a => a.Instrument) (fun a b => { a with Instrument := b }) := ⟨Foc.at foc_Event_Instrument rfl⟩
instance lf_Event_4 : FocC rEvent 4 (rI .i64) (fun a => a.Key) (fun a b => { a with Key := b }) := ⟨Foc.at foc_Event_Key rfl⟩
instance lf_Event_5 : FocC rEvent 5 (rF .f32) (fun a => a.Force) (fun a b => { a with Force := b }) := ⟨Foc.at foc_Event_Force rfl⟩
end Go.Sx
/- How Voice, Player lie in cells; their parts; given ones opened. -/
set_option linter.unusedVariables false
set_option linter.unusedSimpArgs false
namespace Go.Sx
open Go.Proofs
def z_Voice : GVoice := ⟨0, 0, 0, false, 0, z_String, z_Pipe, z_Bow⟩
end Go.Sx
/- What the laws have in common: values marked and compared among others. -/
set_option linter.unusedVariables false
set_option linter.unusedSimpArgs false
namespace Go.Sx
open Go.Proofs
set_option maxRecDepth 100000

theorem PairR.go {α : Type} {r : Rep α} {P : Program} {f : FuncId} {args : Array Value} {a : α} {code : Int} {hb h : Heap} {L : List Blk} {K : Value → Heap → Prop} (M : Mem hb h L) (c : CALL P f args (fun u h' => PairR r h h' u a code) h)
    (H : ∀ h' cs B, Mem hb h' (B ++ L) → r.ow B cs.toList a → cs.size = r.sz → K (.tuple ⟨[.agg cs, .int .i64 code]⟩) h') : CALL P f args K h :=
  c.mono fun u h' ⟨cs, B, e, O, N⟩ => by subst e; exact H h' cs B (M.join N) O (by simpa using r.olen O)
end Go.Sx
/- What functions of this seat's program compute, told in words (a predicate over heaps for each), and the proofs that the words are no more than the code's own weakest precondition. -/
namespace Go.Sx
open Go.Proofs
set_option linter.unusedVariables false
set_option maxRecDepth 100000

def impl_decimal.S (n_0 : Int) (Post : Value → Heap → Prop) (h : Heap) : Prop :=
    CALL prg f_strconv_FormatInt #[.int .i64 n_0, .int .i64 (10 : Int)] (fun q1 h2 =>
    asS q1 fun s3 =>
    Post (.string s3) h2) h
noncomputable def impl_decimal.code : Code := (Tryz.f80.body).getD .skip
theorem impl_decimal.call {n_0 : Int} {Post : Value → Heap → Prop} {h : Heap} (H : impl_decimal.S n_0 Post h) : CALL prg f_impl_decimal #[.int .i64 n_0] Post h :=
  fn_call tau_ok mixed (c := impl_decimal.code) (Λ := lookL []) Tryz.func80 (by kernel_rfl) (by kernel_rfl)
    (Rq.free (by kernel_rfl))
    (Eq.mp (by kernel_rfl) H)

end Go.Sx
/- Decimals: the rule's, digit by digit. -/
set_option linter.unusedVariables false
set_option linter.unusedSimpArgs false
namespace Go.Sx
open Go.Proofs
set_option maxRecDepth 100000

/-- A whole number's digits. -/
def decB (m : Nat) : ByteArray := ⟨(Lib.decDigits m).toArray⟩
end Go.Sx
/- Contracts of the kit's shelf, taken as calls of ours. -/
set_option linter.unusedVariables false
namespace Go.Sx

/-- A call whose contract tells a value and new blocks alone. -/
theorem CALL_of_calls {P : Program} {f : FuncId} {fn : Func} {args : Array Value} {K : Value → Heap → Prop} {h : Heap} (hf : P.funcs[f]? = some fn) (hb : fn.body.isNone = false) (hn : (fn.name == "runtime.NumGoroutine") = false)
    (c : ∀ w : World, w.heap = h → Calls P f args w fun e w' => ∃ v, e = .returned v ∧ Same w w' ∧ K v w'.heap) : CALL P f args K h := by
  intro w hw
  have hrun : (callFunc f args).run P w = .ok (.enter f args) w := by
    unfold callFunc
    simp only [Sem.run_bind, run_program, Result.andThen_ok, hf, hn, hb, Bool.false_eq_true, if_false]
    rfl
  rw [hrun]
  exact c w hw
theorem grow_same (w : World) (k : Nat) (os : Array Obj) : Same w (Sort.grow (w.drewN k) os) := ⟨rfl, rfl, rfl⟩
theorem grow_ext (w : World) (k : Nat) (os : Array Obj) : Ext w.heap (Sort.grow (w.drewN k) os).heap := by
  show Ext w.heap (w.heap ++ os)
  refine ⟨by simp, fun i hi => ?_⟩
  rw [Array.getElem?_append_left hi]
end Go.Sx
