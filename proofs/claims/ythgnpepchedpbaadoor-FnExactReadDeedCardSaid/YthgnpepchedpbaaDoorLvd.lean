/- What the program reads as a number, walked by the kit's tactics: the library's answer is an interface value. Printed by shld.py. -/
import Derived.Test.YthgnpepchedpbaaDoorLv2
import Derived.Test.YthgnpepchedpbaaDoorLv4
import Derived.Test.YthgnpepchedpbaaDoorLrow
import Derived.Lib.AtoiErrMem
import Derived.Lib.ParseIntBTie
import Derived.WalkKit
import Derived.BigCall
set_option linter.unusedVariables false
set_option linter.unusedSimpArgs false
namespace Go.Sx
open Go.Proofs Go.RowKit
theorem below_ext {w w' : World} (h : Below w.heap.size w w') : Ext w.heap w'.heap := ⟨h.size, h.block⟩
theorem below_same {B : Nat} {w w' : World} (h : Below B w w') : Same w w' := ⟨h.os, h.tape, h.output⟩
theorem below_mk {w w' : World} (s : Same w w') (x : Ext w.heap w'.heap) : Below w.heap.size w w' := ⟨s.os, s.tape, s.output, x.le, x.eq⟩
theorem PI_ok (s : ByteArray) (hmax : s.size ≤ 9223372036854775806) (v : Int) (h : Lib.parseIntB 64 s.data.toList = .ok v) (w : World) :
    Calls Tryd.prog 28 #[.string s, .int .i64 10, .int .i64 64] w fun e w' => e = .returned (.tuple #[.int .i64 v, .nilIface]) ∧ Below w.heap.size w w' := by
  refine (Any.strconv_ParseInt_10_at64_ok L174 s hmax v h w).mono ?_
  rintro e w' ⟨rfl, rfl | ⟨t, rfl⟩⟩
  · exact ⟨rfl, Below.refl _ _⟩
  · exact ⟨rfl, Lib.bytesWorld_below _ _ _⟩
theorem PI_syntax (s : ByteArray) (hlim : s.size ≤ 281474976710656) (h : Lib.parseIntB 64 s.data.toList = Lib.NumEnd.syntax) (ev : Value) (w : World) (hv : w.cell? ⟨R174.g 15, 0, none⟩ = some ev) (hev : ev = .nilIface ∨ ∃ te pe, ev = .iface te pe) :
    Calls Tryd.prog 28 #[.string s, .int .i64 10, .int .i64 64] w fun e w' => ∃ N, e = .returned (.tuple #[.int .i64 (0), .iface (R174.t 168) (.pointer (some ⟨N, 0, none⟩))]) ∧ Below w.heap.size w w' := by
  refine (Any.strconv_ParseInt_10_at64_syntax L174 s hlim h ev w hv hev).mono ?_
  rintro e w' ⟨N, rfl, -, -, b⟩
  exact ⟨N, rfl, b⟩
theorem PI_range (s : ByteArray) (hlim : s.size ≤ 281474976710656) (h : Lib.parseIntB 64 s.data.toList = .range) (ev : Value) (w : World) (hv : w.cell? ⟨R174.g 16, 0, none⟩ = some ev) (hev : ev = .nilIface ∨ ∃ te pe, ev = .iface te pe) :
    Calls Tryd.prog 28 #[.string s, .int .i64 10, .int .i64 64] w fun e w' => ∃ N, e = .returned (.tuple #[.int .i64 (Lib.intSat 64 s.data.toList), .iface (R174.t 168) (.pointer (some ⟨N, 0, none⟩))]) ∧ Below w.heap.size w w' := by
  refine (Any.strconv_ParseInt_10_at64_range L174 s hlim h ev w hv hev).mono ?_
  rintro e w' ⟨N, rfl, -, -, b⟩
  exact ⟨N, rfl, b⟩
theorem DEC (n : Int) (h1 : -9223372036854775808 ≤ n) (h2 : n ≤ 9223372036854775807) (w : World) (T : Tens w.heap) :
    Calls Tryd.prog 17 #[.int .i64 n] w fun e w' => e = .returned (.string ⟨(Lib.itoa n).toArray⟩) ∧ Below w.heap.size w w' := by
  refine (calls_of_CALL Tryd.func17 rfl rfl (decimal_n h1 h2 T)).mono ?_
  rintro e w' ⟨v, rfl, s, rfl, x⟩
  exact ⟨rfl, below_mk s x⟩
set_option maxRecDepth 100000 in
theorem RD_ok (s : ByteArray) (hmax : s.size ≤ 1048576) (v : Int) (h : Lib.parseIntB 64 s.data.toList = .ok v) (w : World) (T : Tens w.heap) :
    Calls Tryd.prog 25 #[.string s] w fun e w' => e = .returned (.tuple #[.int .i64 v, .bool (Lib.itoa v == s.toList)]) ∧ Below w.heap.size w w' := by
  have bd := Lib.parseIntB_bounds h
  go_enter Tryd.func25, Tryd.ntmps25
  go_wp2_with (first
    | (go_at_call 28; refine (PI_ok s (by omega) v h _).mono ?_; rintro e w1 ⟨rfl, b1⟩)
    | (go_at_call 17; refine (DEC v (by omega) (by omega) _ (T.ext (below_ext b1))).mono ?_; rintro e w2 ⟨rfl, b2⟩))
  go_ret2
  exact ⟨rfl, below_mk ((below_same b1).trans (below_same b2)) ((below_ext b1).trans (below_ext b2))⟩
set_option maxRecDepth 100000 in
theorem RD_syntax (s : ByteArray) (hmax : s.size ≤ 1048576) (h : Lib.parseIntB 64 s.data.toList = Lib.NumEnd.syntax) (ev : Value) (w : World) (hv : w.cell? ⟨R174.g 15, 0, none⟩ = some ev) (hev : ev = .nilIface ∨ ∃ te pe, ev = .iface te pe) :
    Calls Tryd.prog 25 #[.string s] w fun e w' => e = .returned (.tuple #[.int .i64 0, .bool false]) ∧ Below w.heap.size w w' := by
  go_enter Tryd.func25, Tryd.ntmps25
  go_wp2_with (go_at_call 28; refine (PI_syntax s (by omega) h ev _ ?_ hev).mono ?_)
  · exact hv
  rintro e W1 ⟨N, rfl, hb⟩
  go_wp2
  go_ret2
  exact ⟨rfl, hb⟩
set_option maxRecDepth 100000 in
theorem RD_range (s : ByteArray) (hmax : s.size ≤ 1048576) (h : Lib.parseIntB 64 s.data.toList = .range) (ev : Value) (w : World) (hv : w.cell? ⟨R174.g 16, 0, none⟩ = some ev) (hev : ev = .nilIface ∨ ∃ te pe, ev = .iface te pe) :
    Calls Tryd.prog 25 #[.string s] w fun e w' => e = .returned (.tuple #[.int .i64 (Lib.intSat 64 s.data.toList), .bool false]) ∧ Below w.heap.size w w' := by
  go_enter Tryd.func25, Tryd.ntmps25
  go_wp2_with (go_at_call 28; refine (PI_range s (by omega) h ev _ ?_ hev).mono ?_)
  · exact hv
  rintro e W1 ⟨N, rfl, hb⟩
  go_wp2
  go_ret2
  exact ⟨rfl, hb⟩
/-- What the library's functions find in the program's variables. -/
structure Libs (h : Heap) : Prop where
  tens : Tens h
  mx : ∃ m, cell h ⟨R146.g 1, 0, none⟩ = some (.int .i64 m)
  es : ∃ ev, cell h ⟨R174.g 15, 0, none⟩ = some ev ∧ (ev = .nilIface ∨ ∃ te pe, ev = .iface te pe)
  er : ∃ ev, cell h ⟨R174.g 16, 0, none⟩ = some ev ∧ (ev = .nilIface ∨ ∃ te pe, ev = .iface te pe)
theorem Libs.ext {h h' : Heap} (B : Libs h) (X : Ext h h') : Libs h' := by
  obtain ⟨m, hm⟩ := B.mx
  obtain ⟨e1, he1, k1⟩ := B.es
  obtain ⟨e2, he2, k2⟩ := B.er
  exact ⟨B.tens.ext X, ⟨m, X.cell hm⟩, ⟨e1, X.cell he1, k1⟩, e2, X.cell he2, k2⟩
/-- What the program reads as a number. -/
theorem readDecimal_c {h : Heap} {s : ByteArray} (B : Libs h) (hs : s.size ≤ 1048576) : CALL prg f_impl_readDecimal #[.string s] (fun u h' => ∃ v ok, u = .tuple ⟨[.int .i64 v, .bool ok]⟩ ∧ (∀ m : Nat, m < 9223372036854775808 → s = decB m → v = (m : Int) ∧ ok = true) ∧ Ext h h') h := by
  have dl : ∀ m : Nat, (decB m).data.toList = Lib.decDigits m := fun m => by unfold decB; simp
  refine CALL_of_calls Tryd.func25 rfl rfl fun w hw => ?_
  subst hw
  match e : Lib.parseIntB 64 s.data.toList with
  | Lib.NumEnd.ok v =>
    refine (RD_ok s hs v e w B.tens).mono ?_
    rintro _ w' ⟨rfl, b⟩
    refine ⟨_, rfl, below_same b, _, _, rfl, fun m hm hd => ?_, below_ext b⟩
    subst hd
    rw [dl, parse_dec hm] at e
    obtain rfl : (m : Int) = v := by injection e
    refine ⟨rfl, ?_⟩
    rw [toList_data, dl, Lib.itoa_nonneg]
    simp
  | Lib.NumEnd.syntax =>
    obtain ⟨ev, hv, hev⟩ := B.es
    refine (RD_syntax s hs e ev w hv hev).mono ?_
    rintro _ w' ⟨rfl, b⟩
    refine ⟨_, rfl, below_same b, _, _, rfl, fun m hm hd => ?_, below_ext b⟩
    subst hd
    rw [dl, parse_dec hm] at e
    cases e
  | Lib.NumEnd.range =>
    obtain ⟨ev, hv, hev⟩ := B.er
    refine (RD_range s hs e ev w hv hev).mono ?_
    rintro _ w' ⟨rfl, b⟩
    refine ⟨_, rfl, below_same b, _, _, rfl, fun m hm hd => ?_, below_ext b⟩
    subst hd
    rw [dl, parse_dec hm] at e
    cases e
end Go.Sx
