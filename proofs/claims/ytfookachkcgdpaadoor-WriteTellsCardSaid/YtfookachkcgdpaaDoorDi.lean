/- The reference's digits of a number. Plain theorems; no condition. -/
import Derived.Test.YtfookachkcgdpaaDoorRm
import Derived.Laws.BytesString
set_option linter.unusedVariables false
set_option linter.unusedSimpArgs false
set_option maxRecDepth 100000
set_option maxHeartbeats 8000000
namespace Go.Proofs.YtfookachkcgdpaaDoor
open Go.RowKit
/-- One byte as a text. -/
theorem NOp.byteStr {P : Program} {h : GH} {M : Blks} {l : Fr} {d : Option Nat} {ty : TypeId} {pos : String} {aft : Array Edge} {g : Option (Nat × Bool)} {src dst e8 e : TypeId} {x : Operand} {b n : Nat} {s1 s2 s3 : Nat} {z1 z2 z3 : Value} {a1 a2 a3 : Bool} [TI P src (.slice e8) s1 z1 a1] [TI P dst .string s2 z2 a2] [TI P e8 (.int .u8) s3 z3 a3]
    (hx : lko l x = some (.slice (some ⟨b, 0, none⟩) 1 1)) (hb : h b = some (cel [.int .u8 n] e)) (hn : n < 256) :
    NOp P h M l ⟨d, .convert src dst x, ty, pos, aft, g⟩ (.string ⟨#[UInt8.ofNat n]⟩) := fun a w h' hle gd ha => by
  have hc : w.cell? ⟨b, 0, none⟩ = some (.int .u8 n) := cell_known gd (hle _ _ hb) rfl
  have hr : (convert src dst (.slice (some ⟨b, 0, none⟩) 1 1)).run P w = .ok (.string ⟨#[UInt8.ofNat n]⟩) w := by
    have := run_bytesToString (P := P) w ⟨b, 0, none⟩ 1 1 [(n : Int)]
    have hl : (loadCells ⟨b, 0, none⟩ 1).run P w = .ok (([(n : Int)]).map (Value.int .u8)).toArray w := run_loadCells_list (P := P) w ⟨b, 0, none⟩ [.int .u8 n] (fun j v hj => by
      match j with
      | 0 => simp at hj; subst hj; exact hc
      | j + 1 => simp at hj)
    have h3 := this hl
    have e1 : ([(n : Int)].foldl (fun r (n : Int) => r.push (UInt8.ofNat n.toNat)) ByteArray.empty) = (⟨#[UInt8.ofNat n]⟩ : ByteArray) := rfl
    rw [e1] at h3
    simp [convert, run_underlying (TI.und (P := P) (t := src)), run_underlying (TI.und (P := P) (t := dst)), run_underlying (TI.und (P := P) (t := e8)), h3]
  simp only [execOp, ha.eval hx, Sem.run_bind, hr, Result.andThen_ok, Sem.run_pure]
variable {P : Program} {h : GH} {M : Blks} {l : Fr} {d : Option Nat} {ty xt yt : TypeId} {pos : String} {aft : Array Edge} {g : Option (Nat × Bool)} {x y : Operand}
theorem wrap_nat {n : Nat} (hn : n ≤ 9223372036854775807) : IntKind.wrap .i64 (n : Int) = n := wrap_in (by omega) (by omega)
theorem NOp.quo10 {u : Nat} (hu : u ≤ 9223372036854775807) (hx : lko l x = some (.int .i64 u)) (hy : lko l y = some (.int .i64 10)) : NOp P h M l ⟨d, .binOp .quo xt x y yt, ty, pos, aft, g⟩ (.int .i64 ((u / 10 : Nat) : Int)) := by
  have e : IntKind.wrap .i64 ((u : Int).tdiv 10) = ((u / 10 : Nat) : Int) := by
    have : (u : Int).tdiv 10 = ((u / 10 : Nat) : Int) := by rw [Int.tdiv_eq_ediv_of_nonneg (by omega)]; omega
    rw [this, wrap_nat (by omega)]
  exact e ▸ NOp.quo hx hy (by decide)
theorem NOp.rem10 {u : Nat} (hx : lko l x = some (.int .i64 u)) (hy : lko l y = some (.int .i64 10)) : NOp P h M l ⟨d, .binOp .rem xt x y yt, ty, pos, aft, g⟩ (.int .i64 ((u % 10 : Nat) : Int)) := by
  have e : (u : Int).tmod 10 = ((u % 10 : Nat) : Int) := by rw [Int.tmod_eq_emod_of_nonneg (by omega)]; omega
  exact e ▸ NOp.rem hx hy (by decide)
theorem NOp.dig {src dst : TypeId} {n s1 s2 : Nat} {z1 z2 : Value} {a1 a2 : Bool} [TI P src (.int .i64) s1 z1 a1] [TI P dst (.int .u8) s2 z2 a2] (hn : n < 256) (hx : lko l x = some (.int .i64 (n : Int))) : NOp P h M l ⟨d, .convert src dst x, ty, pos, aft, g⟩ (.int .u8 (n : Int)) := by
  have e : IntKind.wrap .u8 (n : Int) = n := by simp [IntKind.wrap, IntKind.bits, IntKind.signed]; omega
  exact e ▸ NOp.toInt hx
attribute [local irreducible] St SL Qs NOp TK SQ RS Fn FnV FnP
def bdec (u : Nat) : ByteArray := ⟨(Lib.decDigits u).toArray⟩
theorem bdec_lt {u : Nat} (h : u < 10) : bdec u = ⟨#[UInt8.ofNat (48 + u)]⟩ := by simp [bdec, Lib.decDigits_one h]
theorem bdec_ge {u : Nat} (h : ¬ u < 10) : bdec u = bdec (u / 10) ++ ⟨#[UInt8.ofNat (48 + u % 10)]⟩ := by
  apply ByteArray.ext
  rw [bdec, Lib.decDigits, dif_neg h]
  simp [bdec]
theorem bdec_size (u : Nat) : (bdec u).size ≤ u + 1 := by
  induction u using Nat.strongRecOn with
  | _ u ih =>
    by_cases h : u < 10
    · rw [bdec_lt h]; show 1 ≤ _; omega
    · rw [bdec_ge h]
      have := ih (u / 10) (by omega)
      have e : (⟨#[UInt8.ofNat (48 + u % 10)]⟩ : ByteArray).size = 1 := rfl
      simp only [ByteArray.size_append, e]
      omega
end Go.Proofs.YtfookachkcgdpaaDoor
/- The reference's digits of a number: the walk. Plain theorems; no condition. -/
set_option linter.unusedVariables false
set_option linter.unusedSimpArgs false
set_option maxRecDepth 100000
set_option maxHeartbeats 8000000
namespace Go.Proofs.YtfookachkcgdpaaDoor
open Go.RowKit
theorem NOp.add48 {P : Program} {h : GH} {M : Blks} {l : Fr} {d : Option Nat} {ty xt yt : TypeId} {pos : String} {aft : Array Edge} {g : Option (Nat × Bool)} {x y : Operand} {u : Nat} (hu : u < 100) (hx : lko l x = some (.int .i64 48)) (hy : lko l y = some (.int .i64 (u : Int))) : NOp P h M l ⟨d, .binOp .add xt x y yt, ty, pos, aft, g⟩ (.int .i64 ((48 + u : Nat) : Int)) := by
  have e : IntKind.wrap .i64 (48 + (u : Int)) = ((48 + u : Nat) : Int) := by rw [wrap_in (by omega) (by omega)]; omega
  exact e ▸ NOp.add hx hy
attribute [local irreducible] St SL Qs NOp TK SQ RS Fn FnV FnP
theorem DigitsN (u : Nat) : u ≤ 9223372036854775807 → ∀ h : GH, FnV Tryd.prog h 39 [.int .i64 (u : Int)].toArray (.string (bdec u)) := by
  induction u using Nat.strongRecOn with
  | _ u ih =>
    intro hu h
    refine FnV.enter Tryd.func39 rfl rfl rfl rfl fun w hg => ?_
    by_cases h10 : u < 10
    · rw [bdec_lt h10]
      repeat' (first | refine SL.n (NOp.add48 (by omega) rfl rfl) rfl ?_ | refine SL.n (NOp.dig (by omega) rfl) rfl ?_ | (refine SL.isSL ?_; first | (refine SL.isN ?_; first | refine SL.nA ?_ | refine SL.alloc rfl rfl (fun b => ?_) | refine SL.box rfl rfl rfl (fun b => ?_)) | (refine SL.isG ?_; first | refine SL.gF rfl rfl rfl ?_ | refine SL.gU rfl rfl rfl ?_ | refine SL.gA ?_) | (refine SL.isSt ?_; refine SL.stA ?_) | refine SL.nil ?_ | (refine SL.isG ?_; first | refine SL.gCase rfl rfl (fun e => ?_) (fun e => ?_) | refine SL.gCaseN rfl rfl (fun e => ?_) (fun e => ?_))) | (refine St.isSt ?_; first | refine St.seq ?_ | refine St.region ?_ | refine St.block ?_ | refine St.ret ?_ | refine St.skip ?_ | refine St.exit ?_ | refine St.condT rfl ?_ | refine St.condF rfl ?_ | refine St.condY rfl (by omega) ?_ | refine St.condZ rfl (by omega) ?_) | (refine Qs.isQs ?_; first | refine Qs.then_normal ?_ | refine Qs.then_rounds ?_ | refine Qs.then_ret ?_ | refine Qs.then_exit ?_ | refine Qs.block_normal ?_ | refine Qs.block_ret ?_ | refine Qs.block_here ?_ | refine Qs.block_other rfl ?_) | refine RS.step ?_)
      refine SL.lit rfl (by repeat (first | exact CellsL.nil | apply CellsL.cons rfl | apply CellsL.cons (cells_enc _) | apply CellsL.cons (One.cells (by assumption)))) rfl rfl rfl rfl rfl rfl (fun b h1 hle hb => ?_)
      refine SL.n (NOp.byteStr rfl hb (by omega)) rfl ?_
      repeat' (first | (refine SL.isSL ?_; first | (refine SL.isN ?_; first | refine SL.nA ?_ | refine SL.alloc rfl rfl (fun b => ?_) | refine SL.box rfl rfl rfl (fun b => ?_)) | (refine SL.isG ?_; first | refine SL.gF rfl rfl rfl ?_ | refine SL.gU rfl rfl rfl ?_ | refine SL.gA ?_) | (refine SL.isSt ?_; refine SL.stA ?_) | refine SL.nil ?_ | (refine SL.isG ?_; first | refine SL.gCase rfl rfl (fun e => ?_) (fun e => ?_) | refine SL.gCaseN rfl rfl (fun e => ?_) (fun e => ?_))) | (refine St.isSt ?_; first | refine St.seq ?_ | refine St.region ?_ | refine St.block ?_ | refine St.ret ?_ | refine St.skip ?_ | refine St.exit ?_ | refine St.condT rfl ?_ | refine St.condF rfl ?_ | refine St.condY rfl (by omega) ?_ | refine St.condZ rfl (by omega) ?_) | (refine Qs.isQs ?_; first | refine Qs.then_normal ?_ | refine Qs.then_rounds ?_ | refine Qs.then_ret ?_ | refine Qs.then_exit ?_ | refine Qs.block_normal ?_ | refine Qs.block_ret ?_ | refine Qs.block_here ?_ | refine Qs.block_other rfl ?_) | refine RS.step ?_)
      exact Qs.retV rfl rfl rfl
    · have c1 := ih (u / 10) (by omega) (by omega)
      have s1 := bdec_size (u / 10)
      rw [bdec_ge h10]
      repeat' (first | (refine SL.isSL ?_; first | (refine SL.isN ?_; first | refine SL.nA ?_ | refine SL.alloc rfl rfl (fun b => ?_) | refine SL.box rfl rfl rfl (fun b => ?_)) | (refine SL.isG ?_; first | refine SL.gF rfl rfl rfl ?_ | refine SL.gU rfl rfl rfl ?_ | refine SL.gA ?_) | (refine SL.isSt ?_; refine SL.stA ?_) | refine SL.nil ?_ | (refine SL.isG ?_; first | refine SL.gCase rfl rfl (fun e => ?_) (fun e => ?_) | refine SL.gCaseN rfl rfl (fun e => ?_) (fun e => ?_))) | (refine St.isSt ?_; first | refine St.seq ?_ | refine St.region ?_ | refine St.block ?_ | refine St.ret ?_ | refine St.skip ?_ | refine St.exit ?_ | refine St.condT rfl ?_ | refine St.condF rfl ?_ | refine St.condY rfl (by omega) ?_ | refine St.condZ rfl (by omega) ?_) | (refine Qs.isQs ?_; first | refine Qs.then_normal ?_ | refine Qs.then_rounds ?_ | refine Qs.then_ret ?_ | refine Qs.then_exit ?_ | refine Qs.block_normal ?_ | refine Qs.block_ret ?_ | refine Qs.block_here ?_ | refine Qs.block_other rfl ?_) | refine RS.step ?_)
      refine St.drawV' 10 [2] rfl rfl rfl rfl rfl ?_
      repeat (first | (refine TK.isTK ?_; first | refine TK.cons rfl rfl (Ob.n rfl (NOp.quo10 hu rfl rfl)) rfl ?_ | refine TK.cons rfl rfl (Ob.n rfl (NOp.rem10 rfl rfl)) rfl ?_ | refine TK.cons rfl rfl (Ob.n rfl (NOp.add48 (by omega) rfl rfl)) rfl ?_ | refine TK.cons rfl rfl (Ob.n rfl (NOp.dig (by omega) rfl)) rfl ?_ | refine TK.cons rfl rfl (Ob.callV rfl rfl (fun h' hle => c1 h')) rfl ?_ | refine TK.cons rfl rfl (Ob.q 33 rfl rfl (fun x h1 hle hq => by obtain ⟨h2, hle2, b, rfl, hb⟩ := hq; exact Ob.n rfl (NOp.byteStr rfl (hle2 _ _ hb) (by omega)))) rfl ?_ | refine TK.cons rfl rfl (Ob.n rfl (NOp.addS rfl rfl (by show _ + 1 ≤ _; omega))) rfl ?_ | (refine TK.isHead rfl ?_; first | (refine TK.isN ?_; first | refine TK.nA ?_ | refine TK.litA ?_) | (refine TK.isG ?_; first | refine TK.cons rfl rfl (Ob.gF rfl rfl rfl) rfl ?_ | refine TK.cons rfl rfl (Ob.gU rfl rfl rfl) rfl ?_ | refine TK.gA ?_)) | (refine TK.isTail rfl ?_; first | refine TK.consS rfl rfl ?_ | refine TK.fA ?_) | refine TK.nilV rfl rfl ?_) | (refine SQ.isSQ ?_; first | refine SQ.nil ?_ | refine SQ.stA ?_))
      repeat' (first | (refine SL.isSL ?_; first | (refine SL.isN ?_; first | refine SL.nA ?_ | refine SL.alloc rfl rfl (fun b => ?_) | refine SL.box rfl rfl rfl (fun b => ?_)) | (refine SL.isG ?_; first | refine SL.gF rfl rfl rfl ?_ | refine SL.gU rfl rfl rfl ?_ | refine SL.gA ?_) | (refine SL.isSt ?_; refine SL.stA ?_) | refine SL.nil ?_ | (refine SL.isG ?_; first | refine SL.gCase rfl rfl (fun e => ?_) (fun e => ?_) | refine SL.gCaseN rfl rfl (fun e => ?_) (fun e => ?_))) | (refine St.isSt ?_; first | refine St.seq ?_ | refine St.region ?_ | refine St.block ?_ | refine St.ret ?_ | refine St.skip ?_ | refine St.exit ?_ | refine St.condT rfl ?_ | refine St.condF rfl ?_ | refine St.condY rfl (by omega) ?_ | refine St.condZ rfl (by omega) ?_) | (refine Qs.isQs ?_; first | refine Qs.then_normal ?_ | refine Qs.then_rounds ?_ | refine Qs.then_ret ?_ | refine Qs.then_exit ?_ | refine Qs.block_normal ?_ | refine Qs.block_ret ?_ | refine Qs.block_here ?_ | refine Qs.block_other rfl ?_) | refine RS.step ?_)
      exact Qs.retV rfl rfl rfl
end Go.Proofs.YtfookachkcgdpaaDoor
/- The reference's digits of a number below nothing. Plain theorems; no condition. -/
set_option linter.unusedVariables false
set_option linter.unusedSimpArgs false
set_option maxRecDepth 100000
set_option maxHeartbeats 8000000
namespace Go.Proofs.YtfookachkcgdpaaDoor
open Go.RowKit
variable {P : Program} {h : GH} {M : Blks} {l : Fr} {d : Option Nat} {ty xt yt : TypeId} {pos : String} {aft : Array Edge} {g : Option (Nat × Bool)} {x y : Operand}
theorem NOp.quo10m {u : Nat} (hu : u ≤ 9223372036854775808) (hx : lko l x = some (.int .i64 (-(u : Int)))) (hy : lko l y = some (.int .i64 10)) : NOp P h M l ⟨d, .binOp .quo xt x y yt, ty, pos, aft, g⟩ (.int .i64 (-((u / 10 : Nat) : Int))) := by
  have e : IntKind.wrap .i64 ((-(u : Int)).tdiv 10) = -((u / 10 : Nat) : Int) := by
    have : (-(u : Int)).tdiv 10 = -((u / 10 : Nat) : Int) := by rw [Int.neg_tdiv, Int.tdiv_eq_ediv_of_nonneg (by omega)]; omega
    rw [this, wrap_in (by omega) (by omega)]
  exact e ▸ NOp.quo hx hy (by decide)
theorem NOp.rem10m {u : Nat} (hx : lko l x = some (.int .i64 (-(u : Int)))) (hy : lko l y = some (.int .i64 10)) : NOp P h M l ⟨d, .binOp .rem xt x y yt, ty, pos, aft, g⟩ (.int .i64 (-((u % 10 : Nat) : Int))) := by
  have e : (-(u : Int)).tmod 10 = -((u % 10 : Nat) : Int) := by rw [Int.neg_tmod, Int.tmod_eq_emod_of_nonneg (by omega)]; omega
  exact e ▸ NOp.rem hx hy (by decide)
theorem NOp.negm {u : Nat} (hu : u < 100) (hx : lko l x = some (.int .i64 (-(u : Int)))) : NOp P h M l ⟨d, .unOp .neg xt x, ty, pos, aft, g⟩ (.int .i64 (u : Int)) := by
  have e : IntKind.wrap .i64 (- -(u : Int)) = (u : Int) := by rw [Int.neg_neg, wrap_in (by omega) (by omega)]
  exact e ▸ NOp.neg hx
attribute [local irreducible] St SL Qs NOp TK SQ RS Fn FnV FnP
theorem DigitsM (u : Nat) : 1 ≤ u → u ≤ 9223372036854775807 → ∀ h : GH, FnV Tryd.prog h 39 [.int .i64 (-(u : Int))].toArray (.string (⟨#[45]⟩ ++ bdec u)) := by
  induction u using Nat.strongRecOn with
  | _ u ih =>
    intro h1 hu h
    have c0 := DigitsN (u % 10) (by omega)
    have s0 := bdec_size (u % 10)
    refine FnV.enter Tryd.func39 rfl rfl rfl rfl fun w hg => ?_
    by_cases h10 : u < 10
    · have e0 : u % 10 = u := by omega
      repeat' (first | refine SL.n (NOp.rem10m rfl rfl) rfl ?_ | refine SL.n (NOp.negm (by omega) rfl) rfl ?_ | refine SL.callV rfl (c0 _) rfl ?_ | refine SL.n (NOp.addS rfl rfl (by show 1 + _ ≤ _; omega)) rfl ?_ | (refine SL.isSL ?_; first | (refine SL.isN ?_; first | refine SL.nA ?_ | refine SL.alloc rfl rfl (fun b => ?_) | refine SL.box rfl rfl rfl (fun b => ?_)) | (refine SL.isG ?_; first | refine SL.gF rfl rfl rfl ?_ | refine SL.gU rfl rfl rfl ?_ | refine SL.gA ?_) | (refine SL.isSt ?_; refine SL.stA ?_) | refine SL.nil ?_ | (refine SL.isG ?_; first | refine SL.gCase rfl rfl (fun e => ?_) (fun e => ?_) | refine SL.gCaseN rfl rfl (fun e => ?_) (fun e => ?_))) | (refine St.isSt ?_; first | refine St.seq ?_ | refine St.region ?_ | refine St.block ?_ | refine St.ret ?_ | refine St.skip ?_ | refine St.exit ?_ | refine St.condT rfl ?_ | refine St.condF rfl ?_ | refine St.condY rfl (by omega) ?_ | refine St.condZ rfl (by omega) ?_) | (refine Qs.isQs ?_; first | refine Qs.then_normal ?_ | refine Qs.then_rounds ?_ | refine Qs.then_ret ?_ | refine Qs.then_exit ?_ | refine Qs.block_normal ?_ | refine Qs.block_ret ?_ | refine Qs.block_here ?_ | refine Qs.block_other rfl ?_) | refine RS.step ?_)
      refine Qs.retVe rfl rfl rfl ?_
      rw [e0]
    · have c1 := ih (u / 10) (by omega) (by omega) (by omega)
      have s1 := bdec_size (u / 10)
      have e45 : (⟨#[45]⟩ : ByteArray).size = 1 := rfl
      repeat' (first | refine SL.n (NOp.rem10m rfl rfl) rfl ?_ | refine SL.n (NOp.quo10m (by omega) rfl rfl) rfl ?_ | refine SL.n (NOp.negm (by omega) rfl) rfl ?_ | refine SL.callV rfl (c0 _) rfl ?_ | refine SL.callV rfl (c1 _) rfl ?_ | refine SL.n (NOp.addS rfl rfl (by simp only [ByteArray.size_append, e45]; omega)) rfl ?_ | (refine SL.isSL ?_; first | (refine SL.isN ?_; first | refine SL.nA ?_ | refine SL.alloc rfl rfl (fun b => ?_) | refine SL.box rfl rfl rfl (fun b => ?_)) | (refine SL.isG ?_; first | refine SL.gF rfl rfl rfl ?_ | refine SL.gU rfl rfl rfl ?_ | refine SL.gA ?_) | (refine SL.isSt ?_; refine SL.stA ?_) | refine SL.nil ?_ | (refine SL.isG ?_; first | refine SL.gCase rfl rfl (fun e => ?_) (fun e => ?_) | refine SL.gCaseN rfl rfl (fun e => ?_) (fun e => ?_))) | (refine St.isSt ?_; first | refine St.seq ?_ | refine St.region ?_ | refine St.block ?_ | refine St.ret ?_ | refine St.skip ?_ | refine St.exit ?_ | refine St.condT rfl ?_ | refine St.condF rfl ?_ | refine St.condY rfl (by omega) ?_ | refine St.condZ rfl (by omega) ?_) | (refine Qs.isQs ?_; first | refine Qs.then_normal ?_ | refine Qs.then_rounds ?_ | refine Qs.then_ret ?_ | refine Qs.then_exit ?_ | refine Qs.block_normal ?_ | refine Qs.block_ret ?_ | refine Qs.block_here ?_ | refine Qs.block_other rfl ?_) | refine RS.step ?_)
      refine Qs.retVe rfl rfl rfl ?_
      rw [bdec_ge h10, bdec_lt (by omega : u % 10 < 10), ByteArray.append_assoc]
theorem Digits_v (n : Int) (h0 : -9223372036854775807 ≤ n) (h1 : n ≤ 9223372036854775807) (h : GH) : FnV Tryd.prog h 39 [.int .i64 n].toArray (.string (bitoa n)) := by
  by_cases hn : n < 0
  · have c := DigitsM n.natAbs (by omega) (by omega) h
    have e : -((n.natAbs : Nat) : Int) = n := by omega
    rw [e] at c
    have e2 : (⟨#[45]⟩ : ByteArray) ++ bdec n.natAbs = bitoa n := by
      apply ByteArray.ext
      simp [bitoa, bdec, Lib.itoa, hn]
    rwa [e2] at c
  · have c := DigitsN n.toNat (by omega) h
    have e : ((n.toNat : Nat) : Int) = n := by omega
    rw [e] at c
    have e2 : bdec n.toNat = bitoa n := by simp [bitoa, bdec, Lib.itoa, hn]
    rwa [e2] at c
end Go.Proofs.YtfookachkcgdpaaDoor
