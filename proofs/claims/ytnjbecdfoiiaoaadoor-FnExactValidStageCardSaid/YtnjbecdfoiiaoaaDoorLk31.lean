/- The program's comparison of two events. -/
import Derived.Test.YtnjbecdfoiiaoaaDoorLk30
set_option linter.unusedVariables false
set_option linter.unusedSimpArgs false
namespace Go.Sx
open Go.Proofs
set_option maxRecDepth 100000
set_option maxHeartbeats 2000000

section
variable {h : Heap}
theorem compareEvents_c (g : Nat) : CALL prg f_impl_compareEvents #[.map (some g)] (fun u h' => ∃ gc, u = .func (.func f_impl_compareEvents_c1) #[] #[.pointer (some ⟨gc, 0, none⟩)] ∧ h.size ≤ gc ∧ cell h' ⟨gc, 0, none⟩ = some (.map (some g)) ∧ Ext h h') h :=
  impl_compareEvents.call ((Mem.start h).alc fun g1 h1 x1 M => ⟨g1, rfl, (M.at_ _ (.head _)).1, M.cell .here 0, x1⟩)
theorem cell_ext {h h' : Heap} {a : Addr} {v : Value} (e : cell h a = some v) (x : Ext h h') : cell h' a = some v := x.cell e
theorem compare_c1_c {es : List GEvent} {gc g : Nat} {ca cb : Array Value} {x y : GEvent} (hc : cell h ⟨gc, 0, none⟩ = some (.map (some g))) (M0 : MapI h g (ownM es)) (Rx : rEvent.rd h ca.toList x) (Ry : rEvent.rd h cb.toList y) :
    CALL prg f_impl_compareEvents_c1 #[.agg ca, .agg cb, .pointer (some ⟨gc, 0, none⟩)] (fun u h' => u = .int .i64 (cmpL (keyM es x) (keyM es y)) ∧ Ext h h') h := by
  have z : (⟨Z_4_int64⟩ : Array Value) = keyV [0, 0, 0, 0] := by rfl
  refine impl_compareEvents_c1.call ?_
  rw [impl_compareEvents_c1.S, z]
  refine alcR Rx fun g1 h1 x1 A => alcR (rEvent.ext x1 Ry) fun g3 h4 x4 B => ?_
  have A := A.ext x4
  have X0 := x1.trans x4
  have hcc := cell_ext hc X0
  have MM := M0.ext X0
  clear hc M0 Rx Ry
  refine A.lda1 rfl fun a5 R5 => ?_
  rw [hcc]
  refine B.lda1 rfl fun a7 R7 => ?_
  have pt : ∀ {hx : Heap} {L : List Blk} {p : Prop}, Mem h4 hx L → p → PIN h4 ⟨gc, 0, none⟩ 1 hx p := fun M H => pin M.ext (fun j hj => ⟨.map (some g), by rw [show j = 0 by omega, add0]; exact hcc⟩) H
  have pa : ∀ {hx : Heap} {L : List Blk} {p : Prop}, Mem h4 hx L → p → PIN h4 ⟨g1, 0, none⟩ 6 hx p := fun M H => A.pin0 (by decide) M.ext H
  have pb : ∀ {hx : Heap} {L : List Blk} {p : Prop}, Mem h4 hx L → p → PIN h4 ⟨g3, 0, none⟩ 6 hx p := fun M H => B.pin0 (by decide) M.ext H
  have oa : ∀ {hx : Heap} {L : List Blk} {K : Array Value → Heap → Prop}, Mem h4 hx L → (∀ h', Mem h4 h' L → K (keyV (keyM es x)) h') → CALL prg f_impl_Event_order #[.agg a5, .map (some g)] (fun q h' => asA q fun a => K a h') hx := fun M H => goM M (order_c (rEvent.ext M.ext R5) (MM.ext M.ext)) fun h' M' => as_a (H h' M')
  have ob : ∀ {hx : Heap} {L : List Blk} {K : Array Value → Heap → Prop}, Mem h4 hx L → (∀ h', Mem h4 h' L → K (keyV (keyM es y)) h') → CALL prg f_impl_Event_order #[.agg a7, .map (some g)] (fun q h' => asA q fun a => K a h') hx := fun M H => goM M (order_c (rEvent.ext M.ext R7) (MM.ext M.ext)) fun h' M' => as_a (H h' M')
  have fin : ∀ {hx : Heap} {L : List Blk} {ga gb : Nat}, Mem h4 hx L → Look L ga (keyV (keyM es x)) → Look L gb (keyV (keyM es y)) →
      CALL prg f_slices_Compare_sl_int64_int64 #[.slice (some (slP ⟨ga, 0, none⟩ 4 0 1)) (4 - 0) (4 - 0), .slice (some (slP ⟨gb, 0, none⟩ 4 0 1)) (4 - 0) (4 - 0)] (fun q h' => asI .i64 q fun n => (Value.int .i64 n = .int .i64 (cmpL (keyM es x) (keyM es y)) ∧ Ext h h')) hx := fun M l1 l2 => by
    rw [slP_zero, slP_zero]
    exact goE (X0.trans M.ext) (Compare_c (M.slI l1 (show 4 ≤ maxLen by decide)) (M.slI l2 (show 4 ≤ maxLen by decide))) fun h' x' => as_i ⟨rfl, x'⟩
  have kx : (keyM es x).length = 4 := rfl
  have ky : (keyM es y).length = 4 := rfl
  have st : ∀ {hx : Heap} {L L' : List Blk} {gq : Nat} {k : List Int} {K : Heap → Prop}, Mem h4 hx L → k.length = 4 → Look L gq (keyV [0, 0, 0, 0]) → Upd L gq (keyV k) L' → (∀ h', Mem h4 h' L' → K h') → STA 4 hx ⟨gq, 0, none⟩ (keyV k) K := fun M hk l u H => M.sta0 l (by rw [keyV_size, hk]) (keyV_one _) rfl u H
  have M := Mem.start h4
  show _ ∧ _
  (repeat' (first
    | with_reducible refine And.intro ?_ ?_
    | with_reducible refine Mem.alc (by assumption) fun _ _ _ _ => ?_
    | with_reducible refine pt (by assumption) ?_
    | with_reducible refine pb (by assumption) ?_
    | with_reducible refine pa (by assumption) ?_
    | with_reducible refine oa (by assumption) fun _ _ => ?_
    | with_reducible refine ob (by assumption) fun _ _ => ?_
    | with_reducible refine slb (by decide) (by decide) (by decide) ?_
    | with_reducible refine st (by assumption) (by first | exact kx | exact ky) (by first | exact .here | exact .there .here) (by first | exact .here | exact .there .here) fun _ _ => ?_
    | with_reducible exact fin (by assumption) (by first | exact .here | exact .there .here) (by first | exact .here | exact .there .here)))
end
end Go.Sx
