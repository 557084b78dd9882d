/- What the laws have in common: values marked and compared among others. -/
import Derived.Test.YtnhcoeogejgidadGreatDoorLh0
import Derived.Test.YtnhcoeogejgidadGreatDoorLh4
import Derived.Test.YtnhcoeogejgidadGreatDoorTab
import Derived.Laws.BytesString
import Derived.Lib.ItoaLen
import Derived.Test.YtnhcoeogejgidadGreatDoorLx1
import Derived.Sort.Grow
import Derived.Deep.Draws
import Derived.Shelf.Strconv.Itoa4
import Derived.Shelf.Strings.SplitShaped
import Derived.Shelf.Strconv.ParseIntPublic10
import Derived.Shelf.Spec.TrailingZeros
import Derived.Shelf.Strings.Repeat
import Derived.Shelf.Strings.OnBuilder
import Derived.Lib.SplitLaws
import Derived.Lib.ParseIntB
import Derived.Lib.AtoiErrMem
import Derived.Lib.ParseIntBTie
import Derived.WideLaws
set_option linter.unusedVariables false
set_option linter.unusedSimpArgs false
namespace Go.Sx
open Go.Proofs
set_option maxRecDepth 100000

theorem PairR.go {α : Type} {r : Rep α} {P : Program} {f : FuncId} {args : Array Value} {a : α} {code : Int} {hb h : Heap} {L : List Blk} {K : Value → Heap → Prop} (M : Mem hb h L) (c : CALL P f args (fun u h' => PairR r h h' u a code) h)
    (H : ∀ h' cs B, Mem hb h' (B ++ L) → r.ow B cs.toList a → cs.size = r.sz → K (.tuple ⟨[.agg cs, .int .i64 code]⟩) h') : CALL P f args K h :=
  c.mono fun u h' ⟨cs, B, e, O, N⟩ => by subst e; exact H h' cs B (M.join N) O (by simpa using r.olen O)
theorem bne_br {b : Bool} {p q : Prop} (hb : b = true) (H : q) : BIF (!b) p q := by
  subst hb; exact H
end Go.Sx
/- The texts that mark strings: 'm' and a number. -/
set_option linter.unusedVariables false
set_option linter.unusedSimpArgs false
namespace Go.Sx
open Go.Proofs
set_option maxRecDepth 100000

theorem conv_one {g : Nat} {h : Heap} {n : Int} {K : Value → Heap → Prop} (hc : cell h ⟨g, 0, none⟩ = some (.int .u8 n)) (H : K (.string ⟨#[UInt8.ofNat n.toNat]⟩) h) : SEMV prg (convert T_sl_uint8 T_string (.slice (some ⟨g, 0, none⟩) 1 1)) K h := by
  refine semv fun w hw => ⟨.string ⟨#[UInt8.ofNat n.toNat]⟩, w, ?_, Same.refl _, by rw [hw]; exact H⟩
  have hc' : w.cell? ⟨g, 0, none⟩ = some (.int .u8 n) := by rw [cell_eq, hw]; exact hc
  rw [run_convert_bytes_string w _ _ _ _ _ _ U_sl_uint8 U_uint8 U_string, run_bytesToString w _ 1 1 [n] ?_]
  · rfl
  · simp [loadCells, loadCellsFrom, hc', Addr.add, Sem.run_pure]
end Go.Sx
/- What functions of this seat's program compute, told in words (a predicate over heaps for each), and the proofs that the words are no more than the code's own weakest precondition. -/
namespace Go.Sx
open Go.Proofs
set_option linter.unusedVariables false
set_option maxRecDepth 100000

def impl_decimal.S (n_0 : Int) (Post : Value → Heap → Prop) (h : Heap) : Prop :=
    CALL prg f_strconv_FormatInt #[.int .i64 n_0, .int .i64 (10 : Int)] (fun q1 h2 =>
    asS q1 fun s3 =>
    Post (.string s3) h2) h
noncomputable def impl_decimal.code : Code := (Tryz.f24.body).getD .skip
theorem impl_decimal.call {n_0 : Int} {Post : Value → Heap → Prop} {h : Heap} (H : impl_decimal.S n_0 Post h) : CALL prg f_impl_decimal #[.int .i64 n_0] Post h :=
  fn_call tau_ok mixed (c := impl_decimal.code) (Λ := lookL []) Tryz.func24 (by kernel_rfl) (by kernel_rfl)
    (Rq.free (by kernel_rfl))
    (Eq.mp (by kernel_rfl) H)

def spec_Decimal.S (n_0 : Int) (Post : Value → Heap → Prop) (h : Heap) : Prop :=
    BIF ((decide ((10 : Int) ≤ n_0))) (
    NZ (10 : Int) <|
    NZ (10 : Int) <|
    (CALL prg f_spec_Decimal #[.int .i64 ((IntKind.i64.wrap (Int.tdiv n_0 (10 : Int))))] (fun q1 h2 =>
    asS q1 fun s3 =>
    ALC ⟨[.int .u8 ((IntKind.u8.wrap ((IntKind.i64.wrap ((48 : Int) + (Int.tmod n_0 (10 : Int)))))))]⟩ T_uint8 (fun g4 h5 =>
    SEMV prg (convert T_sl_uint8 T_string (.slice (some ⟨g4, 0, none⟩) 1 1)) (fun q6 h7 =>
    asS q6 fun s8 =>
    ((ByteArray.size s3 + ByteArray.size s8 : Nat) : Int) ≤ 9223372036854775807 ∧ (
    Post (.string (s3 ++ s8)) h7)) h5) h2) h) ∧ (ALC ⟨[.int .u8 ((IntKind.u8.wrap ((IntKind.i64.wrap ((48 : Int) + (Int.tmod n_0 (10 : Int)))))))]⟩ T_uint8 (fun g9 h10 =>
    (CALL prg f_spec_Decimal #[.int .i64 ((IntKind.i64.wrap (Int.tdiv n_0 (10 : Int))))] (fun q11 h12 =>
    asS q11 fun s13 =>
    SEMV prg (convert T_sl_uint8 T_string (.slice (some ⟨g9, 0, none⟩) 1 1)) (fun q14 h15 =>
    asS q14 fun s16 =>
    ((ByteArray.size s13 + ByteArray.size s16 : Nat) : Int) ≤ 9223372036854775807 ∧ (
    Post (.string (s13 ++ s16)) h15)) h12) h10) ∧ (SEMV prg (convert T_sl_uint8 T_string (.slice (some ⟨g9, 0, none⟩) 1 1)) (fun q17 h18 =>
    asS q17 fun s19 =>
    CALL prg f_spec_Decimal #[.int .i64 ((IntKind.i64.wrap (Int.tdiv n_0 (10 : Int))))] (fun q20 h21 =>
    asS q20 fun s22 =>
    ((ByteArray.size s22 + ByteArray.size s19 : Nat) : Int) ≤ 9223372036854775807 ∧ (
    Post (.string (s22 ++ s19)) h21)) h18) h10)) h)) (
    ALC ⟨[.int .u8 ((IntKind.u8.wrap ((IntKind.i64.wrap ((48 : Int) + n_0)))))]⟩ T_uint8 (fun g23 h24 =>
    SEMV prg (convert T_sl_uint8 T_string (.slice (some ⟨g23, 0, none⟩) 1 1)) (fun q25 h26 =>
    asS q25 fun s27 =>
    Post (.string s27) h26) h24) h)
noncomputable def spec_Decimal.code : Code := (Tryz.f20.body).getD .skip
theorem spec_Decimal.call {n_0 : Int} {Post : Value → Heap → Prop} {h : Heap} (H : spec_Decimal.S n_0 Post h) : CALL prg f_spec_Decimal #[.int .i64 n_0] Post h :=
  fn_call tau_ok mixed (c := spec_Decimal.code) (Λ := lookL []) Tryz.func20 (by kernel_rfl) (by kernel_rfl)
    (Rq.free (by kernel_rfl))
    (Eq.mp (by kernel_rfl) H)

end Go.Sx
/- Decimals: the rule's, digit by digit. -/
set_option linter.unusedVariables false
set_option linter.unusedSimpArgs false
namespace Go.Sx
open Go.Proofs
set_option maxRecDepth 100000

/-- A whole number's digits. -/
def decB (m : Nat) : ByteArray := ⟨(Lib.decDigits m).toArray⟩
theorem ba_app (a b : List UInt8) : (⟨a.toArray⟩ : ByteArray) ++ ⟨b.toArray⟩ = ⟨(a ++ b).toArray⟩ := by
  apply ByteArray.ext
  rw [ByteArray.data_append]
  simp
theorem decB_small {m : Nat} (h : m < 10) : decB m = ⟨#[UInt8.ofNat (48 + m)]⟩ := by unfold decB; rw [Lib.decDigits_one h]
theorem decB_step {m : Nat} (h : ¬ m < 10) : decB (m / 10) ++ ⟨#[UInt8.ofNat (48 + m % 10)]⟩ = decB m := by
  unfold decB
  rw [show (⟨#[UInt8.ofNat (48 + m % 10)]⟩ : ByteArray) = ⟨[UInt8.ofNat (48 + m % 10)].toArray⟩ from rfl, ba_app]
  rw [Lib.decDigits.eq_def m, dif_neg h]
theorem decB_size {m : Nat} (h : m < 18446744073709551616) : (decB m).size ≤ 20 := by
  show (Lib.decDigits m).toArray.size ≤ 20
  rw [List.size_toArray, Lib.decDigits_length]
  exact Lib.nDigits_le20 m h
theorem one_size (a : UInt8) : (⟨#[a]⟩ : ByteArray).size = 1 := rfl
theorem spec_Decimal_c : ∀ (m : Nat), m < 9223372036854775808 → Ret prg f_spec_Decimal #[.int .i64 (m : Int)] (.string (decB m)) := by
  intro m
  induction m using Nat.strongRecOn with
  | _ m ih =>
  intro hm h
  have eN : Int.tmod (m : Int) 10 = ((m % 10 : Nat) : Int) := by rw [Int.ofNat_tmod]; rfl
  have eD : Int.tdiv (m : Int) 10 = ((m / 10 : Nat) : Int) := by rw [Int.ofNat_tdiv]; rfl
  have hw : ∀ k : Nat, k < 10 → IntKind.u8.wrap (IntKind.i64.wrap (48 + (k : Int))) = ((48 + k : Nat) : Int) := fun k hk => by
    rw [wrap64 (by omega) (by omega)]
    unfold IntKind.wrap
    show (48 + (k : Int)) % 2 ^ 8 = _
    omega
  refine spec_Decimal.call (brd (fun hc => ?_) fun hc => ?_)
  · have hlt : ¬ m < 10 := by omega
    rw [eN, eD, hw _ (Nat.mod_lt _ (by omega)), wrap64 (n := ((m / 10 : Nat) : Int)) (by omega) (by omega)]
    have R := ih (m / 10) (Nat.div_lt_self (by omega) (by decide)) (by omega)
    have sz : ((ByteArray.size (decB (m / 10)) + ByteArray.size (⟨#[UInt8.ofNat ((48 + m % 10 : Nat) : Int).toNat]⟩ : ByteArray) : Nat) : Int) ≤ 9223372036854775807 := by
      have := decB_size (m := m / 10) (by omega)
      rw [one_size]; omega
    have ev : decB (m / 10) ++ (⟨#[UInt8.ofNat ((48 + m % 10 : Nat) : Int).toNat]⟩ : ByteArray) = decB m := by rw [Int.toNat_natCast]; exact decB_step hlt
    refine nz (by omega) (nz (by omega) ⟨?_, ?_⟩)
    · refine Ret.go R fun h1 x1 => as_s ((Mem.start h1).alc fun g h2 x2 M => conv_one (M.cell .here 0) (as_s ⟨sz, ?_⟩))
      exact ⟨by rw [ev], x1.trans x2⟩
    · refine (Mem.start h).alc fun g h2 x2 M => ⟨?_, ?_⟩
      · refine Ret.go R fun h1 x1 => as_s (conv_one ((M.grow x1).cell .here 0) (as_s ⟨sz, ?_⟩))
        exact ⟨by rw [ev], x2.trans x1⟩
      · refine conv_one (M.cell .here 0) (as_s (Ret.go R fun h1 x1 => as_s ⟨sz, ?_⟩))
        exact ⟨by rw [ev], x2.trans x1⟩
  · rw [hw m (by omega)]
    refine (Mem.start h).alc fun g h2 x2 M => conv_one (M.cell .here 0) (as_s ⟨?_, x2⟩)
    rw [Int.toNat_natCast, decB_small (by omega)]
end Go.Sx
/- Contracts of the kit's shelf, taken as calls of ours. -/
set_option linter.unusedVariables false
namespace Go.Sx

/-- A call whose contract tells a value and new blocks alone. -/
theorem CALL_of_calls {P : Program} {f : FuncId} {fn : Func} {args : Array Value} {K : Value → Heap → Prop} {h : Heap} (hf : P.funcs[f]? = some fn) (hb : fn.body.isNone = false) (hn : (fn.name == "runtime.NumGoroutine") = false)
    (c : ∀ w : World, w.heap = h → Calls P f args w fun e w' => ∃ v, e = .returned v ∧ Same w w' ∧ K v w'.heap) : CALL P f args K h := by
  intro w hw
  have hrun : (callFunc f args).run P w = .ok (.enter f args) w := by
    unfold callFunc
    simp only [Sem.run_bind, run_program, Result.andThen_ok, hf, hn, hb, Bool.false_eq_true, if_false]
    rfl
  rw [hrun]
  exact c w hw
theorem grow_same (w : World) (k : Nat) (os : Array Obj) : Same w (Sort.grow (w.drewN k) os) := ⟨rfl, rfl, rfl, fun e => by cases e⟩
theorem grow_ext (w : World) (k : Nat) (os : Array Obj) : Ext w.heap (Sort.grow (w.drewN k) os).heap := by
  show Ext w.heap (w.heap ++ os)
  refine ⟨by simp, fun i hi => ?_⟩
  rw [Array.getElem?_append_left hi]
end Go.Sx
/- Contracts of the kit's shelf, laid at the seat's program. -/
namespace Go.Proofs
open Go.Shelf
def Tryz.lays173_ren : Go.Shelf.Ren := ⟨fun | 173 => 73 | 246 => 157 | 283 => 226 | 284 => 227 | 285 => 228 | 286 => 229 | 129 => 267 | 317 => 266 | 318 => 268 | 319 => 269 | 320 => 270 | 337 => 289 | 338 => 290 | n => n, fun | 2 => 2 | 3 => 3 | 9 => 9 | 4 => 4 | 171 => 288 | 0 => 0 | 53 => 228 | 37 => 133 | 5 => 5 | 173 => 291 | 212 => 321 | 51 => 211 | 20 => 20 | 213 => 322 | 46 => 293 | 232 => 354 | 233 => 355 | n => n, fun | 17 => 1 | 18 => 7 | 19 => 8 | n => n⟩
theorem Tryz.lays173 : Go.Proofs.LaysM.n173 Tryz.prog Tryz.lays173_ren := {
  mixed := by kernel_rfl
  f129 := Tryz.func267.trans (congrArg some (by kernel_rfl))
  f173 := Tryz.func73.trans (congrArg some (by kernel_rfl))
  f246 := Tryz.func157.trans (congrArg some (by kernel_rfl))
  f283 := Tryz.func226.trans (congrArg some (by kernel_rfl))
  f284 := Tryz.func227.trans (congrArg some (by kernel_rfl))
  f285 := Tryz.func228.trans (congrArg some (by kernel_rfl))
  f286 := Tryz.func229.trans (congrArg some (by kernel_rfl))
  f317 := Tryz.func266.trans (congrArg some (by kernel_rfl))
  f318 := Tryz.func268.trans (congrArg some (by kernel_rfl))
  f319 := Tryz.func269.trans (congrArg some (by kernel_rfl))
  f320 := Tryz.func270.trans (congrArg some (by kernel_rfl))
  f337 := Tryz.func289.trans (congrArg some (by kernel_rfl))
  f338 := Tryz.func290.trans (congrArg some (by kernel_rfl))
  t0 := Tryz.underlying0
  a0 := Tryz.isAgg0
  z0 := Tryz.sizeOf0
  v0 := Tryz.zeroValue0
  t2 := Tryz.underlying2
  a2 := Tryz.isAgg2
  z2 := Tryz.sizeOf2
  v2 := Tryz.zeroValue2
  t3 := Tryz.underlying3
  a3 := Tryz.isAgg3
  z3 := Tryz.sizeOf3
  v3 := Tryz.zeroValue3
  t4 := Tryz.underlying4
  a4 := Tryz.isAgg4
  z4 := Tryz.sizeOf4
  v4 := Tryz.zeroValue4
  t5 := Tryz.underlying5
  a5 := Tryz.isAgg5
  z5 := Tryz.sizeOf5
  v5 := Tryz.zeroValue5
  t9 := Tryz.underlying9
  a9 := Tryz.isAgg9
  z9 := Tryz.sizeOf9
  v9 := Tryz.zeroValue9
  t20 := Tryz.underlying20
  a20 := Tryz.isAgg20
  z20 := Tryz.sizeOf20
  v20 := Tryz.zeroValue20
  t37 := Tryz.underlying133
  a37 := Tryz.isAgg133
  z37 := Tryz.sizeOf133
  v37 := Tryz.zeroValue133
  t46 := Tryz.underlying293
  a46 := Tryz.isAgg293
  z46 := Tryz.sizeOf293
  v46 := Tryz.zeroValue293
  t51 := Tryz.underlying211
  a51 := Tryz.isAgg211
  z51 := Tryz.sizeOf211
  v51 := Tryz.zeroValue211
  t53 := Tryz.underlying228
  a53 := Tryz.isAgg228
  z53 := Tryz.sizeOf228
  v53 := Tryz.zeroValue228
  t171 := Tryz.underlying288
  a171 := Tryz.isAgg288
  z171 := Tryz.sizeOf288
  v171 := Tryz.zeroValue288
  t173 := Tryz.underlying291
  a173 := Tryz.isAgg291
  z173 := Tryz.sizeOf291
  v173 := Tryz.zeroValue291
  t212 := Tryz.underlying321
  a212 := Tryz.isAgg321
  z212 := Tryz.sizeOf321
  v212 := Tryz.zeroValue321
  t213 := Tryz.underlying322
  a213 := Tryz.isAgg322
  z213 := Tryz.sizeOf322
  t232 := Tryz.underlying354
  a232 := Tryz.isAgg354
  z232 := Tryz.sizeOf354
  v232 := Tryz.zeroValue354
  t233 := Tryz.underlying355
  a233 := Tryz.isAgg355
  z233 := Tryz.sizeOf355
  v233 := Tryz.zeroValue355
  g17 := by kernel_rfl
  g18 := by kernel_rfl
  g19 := by kernel_rfl
  i0 := by kernel_rfl
  i2 := by kernel_rfl
  i3 := by kernel_rfl
  i4 := by kernel_rfl
  i5 := by kernel_rfl
  i9 := by kernel_rfl
  i20 := by kernel_rfl
  i37 := by kernel_rfl
  i46 := by kernel_rfl
  i51 := by kernel_rfl
  i53 := by kernel_rfl
  i171 := by kernel_rfl
  i173 := by kernel_rfl
  i212 := by kernel_rfl
  i232 := by kernel_rfl
  i233 := by kernel_rfl
  m17 := by kernel_rfl
  m18 := by kernel_rfl
  m19 := by kernel_rfl }
def Tryz.lays146_ren : Go.Shelf.Ren := ⟨fun | 146 => 42 | 221 => 103 | 268 => 188 | 138 => 189 | 143 => 190 | 195 => 245 | 197 => 246 | 218 => 247 | 219 => 248 | 260 => 279 | 217 => 187 | 225 => 280 | 224 => 281 | 267 => 282 | 266 => 244 | 314 => 298 | n => n, fun | 9 => 9 | 31 => 87 | 3 => 3 | 4 => 4 | 0 => 0 | 105 => 304 | 21 => 21 | 5 => 5 | 46 => 293 | 119 => 346 | 139 => 349 | 138 => 348 | 146 => 325 | 51 => 211 | n => n, fun | 1 => 2 | 3 => 5 | 4 => 6 | n => n⟩
def Tryz.lays174_ren : Go.Shelf.Ren := ⟨fun | 174 => 105 | 247 => 192 | 245 => 193 | 287 => 249 | 279 => 250 | 280 => 251 | 281 => 252 | 282 => 253 | 321 => 283 | 322 => 284 | 316 => 285 | 171 => 287 | 205 => 286 | 243 => 299 | 246 => 157 | 283 => 226 | 284 => 227 | 285 => 228 | 286 => 229 | 129 => 267 | 317 => 266 | 318 => 268 | 319 => 269 | 320 => 270 | 337 => 289 | 338 => 290 | n => n, fun | 9 => 9 | 3 => 3 | 2 => 2 | 75 => 182 | 85 => 183 | 4 => 4 | 167 => 306 | 5 => 5 | 53 => 228 | 175 => 264 | 46 => 293 | 168 => 307 | 37 => 133 | 0 => 0 | 210 => 335 | 21 => 21 | 127 => 271 | 145 => 353 | 143 => 351 | 171 => 288 | 173 => 291 | 212 => 321 | 51 => 211 | 20 => 20 | 213 => 322 | 232 => 354 | 233 => 355 | 80 => 193 | n => n, fun | 15 => 3 | 16 => 4 | 17 => 1 | 18 => 7 | 19 => 8 | n => n⟩
def Tryz.lays27_ren : Go.Shelf.Ren := ⟨fun | 27 => 270 | 28 => 289 | 29 => 290 | n => n, fun | 25 => 293 | 3 => 3 | 27 => 211 | 22 => 228 | 4 => 4 | 53 => 354 | 0 => 0 | 5 => 5 | 54 => 355 | n => n, fun | 0 => 7 | 1 => 8 | n => n⟩
theorem Tryz.lays27 : Go.Proofs.Lays7.n27 Tryz.prog Tryz.lays27_ren := {
  mixed := by kernel_rfl
  f27 := Tryz.func270.trans (congrArg some (by kernel_rfl))
  f28 := Tryz.func289.trans (congrArg some (by kernel_rfl))
  f29 := Tryz.func290.trans (congrArg some (by kernel_rfl))
  t0 := Tryz.underlying0
  a0 := Tryz.isAgg0
  z0 := Tryz.sizeOf0
  v0 := Tryz.zeroValue0
  i0 := by kernel_rfl
  t3 := Tryz.underlying3
  a3 := Tryz.isAgg3
  z3 := Tryz.sizeOf3
  v3 := Tryz.zeroValue3
  i3 := by kernel_rfl
  t4 := Tryz.underlying4
  a4 := Tryz.isAgg4
  z4 := Tryz.sizeOf4
  v4 := Tryz.zeroValue4
  i4 := by kernel_rfl
  t5 := Tryz.underlying5
  a5 := Tryz.isAgg5
  z5 := Tryz.sizeOf5
  v5 := Tryz.zeroValue5
  i5 := by kernel_rfl
  t22 := Tryz.underlying228
  a22 := Tryz.isAgg228
  z22 := Tryz.sizeOf228
  v22 := Tryz.zeroValue228
  i22 := by kernel_rfl
  t25 := Tryz.underlying293
  a25 := Tryz.isAgg293
  z25 := Tryz.sizeOf293
  v25 := Tryz.zeroValue293
  i25 := by kernel_rfl
  t27 := Tryz.underlying211
  a27 := Tryz.isAgg211
  z27 := Tryz.sizeOf211
  v27 := Tryz.zeroValue211
  i27 := by kernel_rfl
  t53 := Tryz.underlying354
  a53 := Tryz.isAgg354
  z53 := Tryz.sizeOf354
  v53 := Tryz.zeroValue354
  i53 := by kernel_rfl
  t54 := Tryz.underlying355
  a54 := Tryz.isAgg355
  z54 := Tryz.sizeOf355
  g0 := by kernel_rfl
  g1 := by kernel_rfl }
def Tryz.lays105_ren : Go.Shelf.Ren := ⟨fun | 105 => 159 | 212 => 231 | 99 => 46 | 165 => 115 | 166 => 116 | 170 => 232 | 169 => 117 | 263 => 271 | 264 => 272 | 206 => 109 | 240 => 200 | 241 => 201 | 276 => 254 | 277 => 255 | n => n, fun | 9 => 9 | 3 => 3 | 4 => 4 | 20 => 20 | 0 => 0 | 46 => 293 | 109 => 294 | 5 => 5 | 72 => 189 | 76 => 191 | 51 => 211 | 146 => 325 | 53 => 228 | 148 => 327 | 70 => 187 | 37 => 133 | 75 => 182 | 127 => 271 | 164 => 310 | 80 => 193 | n => n, fun | n => n⟩
theorem Tryz.lays105 : Go.Proofs.Lays.n105 Tryz.prog Tryz.lays105_ren := {
  mixed := by kernel_rfl
  f99 := Tryz.func46.trans (congrArg some (by kernel_rfl))
  f105 := Tryz.func159.trans (congrArg some (by kernel_rfl))
  f165 := Tryz.func115.trans (congrArg some (by kernel_rfl))
  f166 := Tryz.func116.trans (congrArg some (by kernel_rfl))
  f169 := Tryz.func117.trans (congrArg some (by kernel_rfl))
  f170 := Tryz.func232.trans (congrArg some (by kernel_rfl))
  f206 := Tryz.func109.trans (congrArg some (by kernel_rfl))
  f212 := Tryz.func231.trans (congrArg some (by kernel_rfl))
  f240 := Tryz.func200.trans (congrArg some (by kernel_rfl))
  f241 := Tryz.func201.trans (congrArg some (by kernel_rfl))
  f263 := Tryz.func271.trans (congrArg some (by kernel_rfl))
  f264 := Tryz.func272.trans (congrArg some (by kernel_rfl))
  f276 := Tryz.func254.trans (congrArg some (by kernel_rfl))
  f277 := Tryz.func255.trans (congrArg some (by kernel_rfl))
  t0 := Tryz.underlying0
  a0 := Tryz.isAgg0
  z0 := Tryz.sizeOf0
  v0 := Tryz.zeroValue0
  t3 := Tryz.underlying3
  a3 := Tryz.isAgg3
  z3 := Tryz.sizeOf3
  v3 := Tryz.zeroValue3
  t4 := Tryz.underlying4
  a4 := Tryz.isAgg4
  z4 := Tryz.sizeOf4
  v4 := Tryz.zeroValue4
  t5 := Tryz.underlying5
  a5 := Tryz.isAgg5
  z5 := Tryz.sizeOf5
  v5 := Tryz.zeroValue5
  t9 := Tryz.underlying9
  a9 := Tryz.isAgg9
  z9 := Tryz.sizeOf9
  v9 := Tryz.zeroValue9
  t20 := Tryz.underlying20
  a20 := Tryz.isAgg20
  z20 := Tryz.sizeOf20
  v20 := Tryz.zeroValue20
  t37 := Tryz.underlying133
  a37 := Tryz.isAgg133
  z37 := Tryz.sizeOf133
  v37 := Tryz.zeroValue133
  t46 := Tryz.underlying293
  a46 := Tryz.isAgg293
  z46 := Tryz.sizeOf293
  v46 := Tryz.zeroValue293
  t51 := Tryz.underlying211
  a51 := Tryz.isAgg211
  z51 := Tryz.sizeOf211
  v51 := Tryz.zeroValue211
  t53 := Tryz.underlying228
  a53 := Tryz.isAgg228
  z53 := Tryz.sizeOf228
  v53 := Tryz.zeroValue228
  t70 := Tryz.underlying187
  a70 := Tryz.isAgg187
  z70 := Tryz.sizeOf187
  v70 := Tryz.zeroValue187
  t72 := Tryz.underlying189
  a72 := Tryz.isAgg189
  z72 := Tryz.sizeOf189
  v72 := Tryz.zeroValue189
  t75 := Tryz.underlying182
  a75 := Tryz.isAgg182
  z75 := Tryz.sizeOf182
  v75 := Tryz.zeroValue182
  t76 := Tryz.underlying191
  a76 := Tryz.isAgg191
  z76 := Tryz.sizeOf191
  v76 := Tryz.zeroValue191
  t109 := Tryz.underlying294
  a109 := Tryz.isAgg294
  z109 := Tryz.sizeOf294
  v109 := Tryz.zeroValue294
  t127 := Tryz.underlying271
  a127 := Tryz.isAgg271
  z127 := Tryz.sizeOf271
  v127 := Tryz.zeroValue271
  t146 := Tryz.underlying325
  a146 := Tryz.isAgg325
  z146 := Tryz.sizeOf325
  v146 := Tryz.zeroValue325
  t148 := Tryz.underlying327
  a148 := Tryz.isAgg327
  z148 := Tryz.sizeOf327
  v148 := Tryz.zeroValue327
  t164 := Tryz.underlying310
  a164 := Tryz.isAgg310
  z164 := Tryz.sizeOf310
  v164 := Tryz.zeroValue310 }
def Tryz.lays156_ren : Go.Shelf.Ren := ⟨fun | 156 => 48 | 165 => 115 | 166 => 116 | 169 => 117 | 240 => 200 | 241 => 201 | 276 => 254 | 277 => 255 | n => n, fun | 31 => 87 | 9 => 9 | 3 => 3 | 4 => 4 | 0 => 0 | 20 => 20 | 72 => 189 | 76 => 191 | 70 => 187 | 37 => 133 | 75 => 182 | 127 => 271 | 164 => 310 | 5 => 5 | 80 => 193 | n => n, fun | n => n⟩
theorem Tryz.lays156 : Go.Proofs.Lays.n156 Tryz.prog Tryz.lays156_ren := {
  mixed := by kernel_rfl
  f156 := Tryz.func48.trans (congrArg some (by kernel_rfl))
  f165 := Tryz.func115.trans (congrArg some (by kernel_rfl))
  f166 := Tryz.func116.trans (congrArg some (by kernel_rfl))
  f169 := Tryz.func117.trans (congrArg some (by kernel_rfl))
  f240 := Tryz.func200.trans (congrArg some (by kernel_rfl))
  f241 := Tryz.func201.trans (congrArg some (by kernel_rfl))
  f276 := Tryz.func254.trans (congrArg some (by kernel_rfl))
  f277 := Tryz.func255.trans (congrArg some (by kernel_rfl))
  t0 := Tryz.underlying0
  a0 := Tryz.isAgg0
  z0 := Tryz.sizeOf0
  v0 := Tryz.zeroValue0
  t3 := Tryz.underlying3
  a3 := Tryz.isAgg3
  z3 := Tryz.sizeOf3
  v3 := Tryz.zeroValue3
  t4 := Tryz.underlying4
  a4 := Tryz.isAgg4
  z4 := Tryz.sizeOf4
  v4 := Tryz.zeroValue4
  t9 := Tryz.underlying9
  a9 := Tryz.isAgg9
  z9 := Tryz.sizeOf9
  v9 := Tryz.zeroValue9
  t20 := Tryz.underlying20
  a20 := Tryz.isAgg20
  z20 := Tryz.sizeOf20
  v20 := Tryz.zeroValue20
  t31 := Tryz.underlying87
  a31 := Tryz.isAgg87
  z31 := Tryz.sizeOf87
  v31 := Tryz.zeroValue87
  t37 := Tryz.underlying133
  a37 := Tryz.isAgg133
  z37 := Tryz.sizeOf133
  v37 := Tryz.zeroValue133
  t70 := Tryz.underlying187
  a70 := Tryz.isAgg187
  z70 := Tryz.sizeOf187
  v70 := Tryz.zeroValue187
  t72 := Tryz.underlying189
  a72 := Tryz.isAgg189
  z72 := Tryz.sizeOf189
  v72 := Tryz.zeroValue189
  t75 := Tryz.underlying182
  a75 := Tryz.isAgg182
  z75 := Tryz.sizeOf182
  v75 := Tryz.zeroValue182
  t76 := Tryz.underlying191
  a76 := Tryz.isAgg191
  z76 := Tryz.sizeOf191
  v76 := Tryz.zeroValue191
  t127 := Tryz.underlying271
  a127 := Tryz.isAgg271
  z127 := Tryz.sizeOf271
  v127 := Tryz.zeroValue271
  t164 := Tryz.underlying310
  a164 := Tryz.isAgg310
  z164 := Tryz.sizeOf310
  v164 := Tryz.zeroValue310 }
end Go.Proofs
namespace Go.Sx
open Go.Proofs
abbrev R173 : Go.Shelf.Ren := Go.Proofs.Tryz.lays173_ren
theorem L173 : Go.Proofs.LaysM.n173 prg R173 := Go.Proofs.Tryz.lays173
abbrev R146 : Go.Shelf.Ren := Go.Proofs.Tryz.lays146_ren
abbrev R174 : Go.Shelf.Ren := Go.Proofs.Tryz.lays174_ren
abbrev R27 : Go.Shelf.Ren := Go.Proofs.Tryz.lays27_ren
theorem L27 : Go.Proofs.Lays7.n27 prg R27 := Go.Proofs.Tryz.lays27
abbrev R105 : Go.Shelf.Ren := Go.Proofs.Tryz.lays105_ren
theorem L105 : Go.Proofs.Lays.n105 prg R105 := Go.Proofs.Tryz.lays105
abbrev R156 : Go.Shelf.Ren := Go.Proofs.Tryz.lays156_ren
theorem L156 : Go.Proofs.Lays.n156 prg R156 := Go.Proofs.Tryz.lays156
end Go.Sx
/- Decimals: the program's, by the shelf's contract. -/
set_option linter.unusedVariables false
set_option linter.unusedSimpArgs false
namespace Go.Sx
open Go.Proofs
set_option maxRecDepth 100000

/-- The table of tens lies where the program has it. -/
def Tens (h : Heap) : Prop := ∀ w : World, Ext h w.heap → Lib.TabIs prg w "internal/strconv.uint64pow10" .u64 Lib.pow10Tab
theorem Tens.ext {h h' : Heap} (T : Tens h) (X : Ext h h') : Tens h' := fun w Y => T w (X.trans Y)
theorem FormatInt_n {n : Int} (h1 : -9223372036854775808 ≤ n) (h2 : n ≤ 9223372036854775807) {h : Heap} (T : Tens h) : CALL prg f_strconv_FormatInt #[.int .i64 n, .int .i64 10] (fun u h' => u = .string ⟨(Lib.itoa n).toArray⟩ ∧ Ext h h') h := by
  refine CALL_of_calls L173.f173 rfl rfl fun w hw => ?_
  subst hw
  refine (Any.strconv_FormatInt_10 L173 n h1 h2 w (T w (Ext.refl _))).mono ?_
  rintro e w' ⟨rfl, k, os, rfl⟩
  exact ⟨_, rfl, grow_same w k os, rfl, grow_ext w k os⟩
theorem decimal_n {n : Int} (h1 : -9223372036854775808 ≤ n) (h2 : n ≤ 9223372036854775807) {h : Heap} (T : Tens h) : CALL prg f_impl_decimal #[.int .i64 n] (fun u h' => u = .string ⟨(Lib.itoa n).toArray⟩ ∧ Ext h h') h :=
  impl_decimal.call (goX (FormatInt_n h1 h2 T) fun h1 x1 => as_s ⟨rfl, x1⟩)
theorem decimal_c {m : Nat} (hm : m < 9223372036854775808) {h : Heap} (T : Tens h) : CALL prg f_impl_decimal #[.int .i64 (m : Int)] (fun u h' => u = .string (decB m) ∧ Ext h h') h := by
  have := decimal_n (n := (m : Int)) (by omega) (by omega) T
  rw [Lib.itoa_nonneg] at this
  exact this
end Go.Sx
/- Plain: texts cut at a byte; numbers that are read. -/
set_option linter.unusedVariables false
set_option linter.unusedSimpArgs false
namespace Go.Sx

/-- A text's bytes as a text. -/
abbrev mkB (l : List UInt8) : ByteArray := ⟨l.toArray⟩
theorem mkB_list (s : ByteArray) : mkB s.data.toList = s := by cases s; simp
/-- A text cut at every instance of a byte. -/
def cutL (c : UInt8) : List UInt8 → List (List UInt8)
  | [] => [[]]
  | b :: l => if b = c then [] :: cutL c l else match cutL c l with
    | [] => [[b]]
    | w :: r => (b :: w) :: r
theorem cut_none {c : UInt8} {a : List UInt8} (h : ∀ x ∈ a, x ≠ c) : cutL c a = [a] := by
  induction a with
  | nil => rfl
  | cons b a ih =>
    unfold cutL
    rw [if_neg (h b (List.mem_cons_self ..)), ih fun x hx => h x (List.mem_cons_of_mem _ hx)]
theorem cut_pre {c : UInt8} {a r : List UInt8} (h : ∀ x ∈ a, x ≠ c) : cutL c (a ++ c :: r) = a :: cutL c r := by
  induction a with
  | nil => show cutL c (c :: r) = _; rw [cutL, if_pos rfl]
  | cons b a ih =>
    show cutL c (b :: (a ++ c :: r)) = _
    rw [cutL, if_neg (h b (List.mem_cons_self ..)), ih fun x hx => h x (List.mem_cons_of_mem _ hx)]
def digs (acc : Nat) : List UInt8 → Option Nat
  | [] => some acc
  | b :: l => if 48 ≤ b.toNat ∧ b.toNat ≤ 57 then digs (acc * 10 + (b.toNat - 48)) l else none
theorem digs_app (acc : Nat) (l r : List UInt8) : digs acc (l ++ r) = (digs acc l).bind fun a => digs a r := by
  induction l generalizing acc with
  | nil => rfl
  | cons b l ih =>
    rw [List.cons_append, digs, digs]
    split
    · exact ih _
    · rfl
theorem dig_byte {k : Nat} (hk : k < 10) : (UInt8.ofNat (48 + k)).toNat = 48 + k := by
  rw [UInt8.toNat_ofNat']; omega
theorem digs_dec (m : Nat) : digs 0 (Lib.decDigits m) = some m := by
  induction m using Nat.strongRecOn with
  | _ m ih =>
    by_cases h : m < 10
    · rw [Lib.decDigits_one h]
      unfold digs
      rw [dig_byte h, if_pos (by omega)]
      simp [digs]
    · rw [Lib.decDigits.eq_def, dif_neg h, digs_app, ih (m / 10) (by omega)]
      show digs (m / 10) [_] = _
      unfold digs
      rw [dig_byte (Nat.mod_lt _ (by omega)), if_pos (by omega)]
      simp only [digs]
      congr 1
      omega
theorem dec_all (m : Nat) : ∀ x ∈ Lib.decDigits m, 48 ≤ x.toNat ∧ x.toNat ≤ 57 := by
  induction m using Nat.strongRecOn with
  | _ m ih =>
    intro x hx
    by_cases h : m < 10
    · rw [Lib.decDigits_one h] at hx
      simp only [List.mem_singleton] at hx
      subst hx
      rw [dig_byte h]; omega
    · rw [Lib.decDigits.eq_def, dif_neg h] at hx
      rcases List.mem_append.1 hx with hx | hx
      · exact ih (m / 10) (by omega) x hx
      · simp only [List.mem_singleton] at hx
        subst hx
        rw [dig_byte (Nat.mod_lt _ (by omega))]; omega
theorem nDig_le : ∀ (k m : Nat), m < 10 ^ (k + 1) → Lib.nDigits m ≤ k + 1
  | 0, m, h => by rw [Lib.nDigits_small (by simpa using h)]; omega
  | k + 1, m, h => by
    by_cases hm : m < 10
    · rw [Lib.nDigits_small hm]; omega
    · rw [Lib.nDigits_big hm]
      have := nDig_le k (m / 10) (by rw [Nat.pow_succ] at h; omega)
      omega
theorem dec_inj {a b : Nat} (h : Lib.decDigits a = Lib.decDigits b) : a = b := by
  have := digs_dec a
  rw [h, digs_dec b] at this
  exact (Option.some.inj this).symm
theorem dec_no (m : Nat) {c : UInt8} (hc : c.toNat < 48 ∨ 57 < c.toNat) : ∀ x ∈ Lib.decDigits m, x ≠ c := fun x hx e => by
  have := dec_all m x hx
  subst e
  omega
end Go.Sx
/- What the program reads as a number: the library's contracts, and the walk over its answer. -/
set_option linter.unusedVariables false
set_option linter.unusedSimpArgs false
namespace Go.Sx
set_option maxRecDepth 100000
open Go.Proofs Go.RowKit
theorem below_ext {w w' : World} (h : Below w.heap.size w w') : Ext w.heap w'.heap := ⟨h.size, h.block⟩
theorem below_same {B : Nat} {w w' : World} (h : Below B w w') : Same w w' := ⟨h.os, h.tape, h.output, fun e => by cases e⟩
/-- What the library's functions find in the program's variables. -/
structure Libs (h : Heap) : Prop where
  tens : Tens h
  mx : ∃ m, cell h ⟨R146.g 1, 0, none⟩ = some (.int .i64 m)
  es : ∃ ev, cell h ⟨R174.g 15, 0, none⟩ = some ev ∧ (ev = .nilIface ∨ ∃ te pe, ev = .iface te pe)
  er : ∃ ev, cell h ⟨R174.g 16, 0, none⟩ = some ev ∧ (ev = .nilIface ∨ ∃ te pe, ev = .iface te pe)
theorem Libs.ext {h h' : Heap} (B : Libs h) (X : Ext h h') : Libs h' := by
  obtain ⟨m, hm⟩ := B.mx
  obtain ⟨e1, he1, k1⟩ := B.es
  obtain ⟨e2, he2, k2⟩ := B.er
  exact ⟨B.tens.ext X, ⟨m, X.cell hm⟩, ⟨e1, X.cell he1, k1⟩, e2, X.cell he2, k2⟩
end Go.Sx
