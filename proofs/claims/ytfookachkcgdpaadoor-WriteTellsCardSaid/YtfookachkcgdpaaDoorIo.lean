/- The library's functions that make texts: a number's digits, words with commas. Plain theorems; no condition. -/
import Derived.Test.YtfookachkcgdpaaDoorCk
import Derived.Test.YtfookachkcgdpaaDoorLay
import Derived.Lib.ItoaLen
import Derived.Lib.AppendIntMem
set_option linter.unusedVariables false
set_option linter.unusedSimpArgs false
set_option maxRecDepth 100000
set_option maxHeartbeats 4000000
namespace Go.Proofs.YtfookachkcgdpaaDoor
open Go.RowKit

/-- A call that writes nothing of what stood is a contract. -/
theorem FnV.ofBelow {P : Program} {h : GH} {f : Nat} {args : Array Value} {v : Value} (c : ∀ w, Good w h [] → Calls P f args w fun e w' => e = .returned v ∧ Below w.heap.size w w') : FnV P h f args v := fun w g =>
  (c w g).mono fun e w' ⟨he, hb⟩ => ⟨v, h, [], he, ⟨⟨fun b o hbo => by rw [hb.block b (lt_of_some (g.sat b o hbo))]; exact g.sat b o hbo, fun p hp => absurd hp (List.not_mem_nil), fun p hp => absurd hp (List.not_mem_nil), List.Pairwise.nil⟩,
    ⟨hb.os, hb.tape, hb.output, hb.size, GH.le.refl _, fun b hlt _ => hb.block b hlt, fun b o x => .inl x, fun p hp => absurd hp (List.not_mem_nil)⟩⟩, rfl, rfl, rfl⟩
/-- The library's table of the powers of ten is laid. -/
def TabG (h : GH) : Prop := ∃ g e fr, Tryd.prog.globalNamed "internal/strconv.uint64pow10" = some g ∧ h g = some (.cells (Lib.pow10Tab.map fun z => Value.int .u64 z).toArray e fr)
theorem TabG.le {h h' : GH} (k : TabG h) (hle : GH.le h h') : TabG h' := by
  obtain ⟨g, e, fr, h1, h2⟩ := k
  exact ⟨g, e, fr, h1, hle _ _ h2⟩
theorem TabG.is {w : World} {h : GH} {M : Blks} (k : TabG h) (g : Good w h M) : Lib.TabIs Tryd.prog w "internal/strconv.uint64pow10" .u64 Lib.pow10Tab := by
  obtain ⟨b, e, fr, h1, h2⟩ := k
  unfold Lib.TabIs World.var?
  rw [h1, Option.bind_some, g.sat _ _ h2]
def bitoa (n : Int) : ByteArray := ⟨(Lib.itoa n).toArray⟩
theorem bitoa_size (n : Int) (h0 : -9223372036854775808 ≤ n) (h1 : n ≤ 9223372036854775807) : (bitoa n).size ≤ 21 := by
  have := Lib.itoa_length_le n h0 h1
  simpa [bitoa, ByteArray.size] using this
theorem Itoa_v (n : Int) (h0 : -9223372036854775808 ≤ n) (h1 : n ≤ 9223372036854775807) (h : GH) (ht : TabG h) : FnV Tryd.prog h 36 [.int .i64 n].toArray (.string (bitoa n)) :=
  FnV.ofBelow fun w g => (Any.strconv_Itoa laysm171 n h0 h1 w (ht.is g)).mono fun e w' ⟨he, k, os, hw⟩ => ⟨he, hw ▸ Go.Lib.below_grow _ w (Nat.le_refl _) k os⟩
def bjoin (l : List ByteArray) : ByteArray := ⟨(Lib.join (l.map (·.data.toList)) [44]).toArray⟩
def bsum (l : List ByteArray) : Nat := (l.map (·.size)).sum
theorem bjoin_size (l : List ByteArray) : (bjoin l).size ≤ bsum l + l.length := by
  cases l with
  | nil => simp [bjoin, Lib.join, ByteArray.size, List.intercalate]
  | cons a l =>
    have := Lib.join_length a.data.toList (l.map (·.data.toList)) [44]
    have h2 : ∀ l : List ByteArray, Lib.lens (l.map (·.data.toList)) = bsum l := by
      intro l
      induction l with
      | nil => rfl
      | cons a l ih => simp [Lib.lens, bsum] at ih ⊢; omega
    have h3 := h2 (a :: l)
    simp only [List.map_cons] at h3
    simp only [bjoin, ByteArray.size, List.map_cons, List.size_toArray]
    rw [this, h3]
    simp
    omega
theorem Join_v (h : GH) (v : Value) (n : Nat) (l : List ByteArray) (hs : Sl h v n (l.map Value.string)) (hn : l.length = n) (hne : l ≠ []) (hb : bsum l ≤ 1000000000) (hn2 : n ≤ 1000000) : FnV Tryd.prog h 54 [v, .string ⟨#[44]⟩].toArray (.string (bjoin l)) := by
  obtain ⟨A, c, rfl, hc, hr⟩ := hs
  obtain ⟨kb, off, ar, te, fr, rfl, hk, hat⟩ := hr (by simpa using hne)
  have hsz := bjoin_size l
  subst hn
  refine FnV.ofBelow fun w g => ?_
  refine Any.strings_Join_48 lays156 joinX kb off c l ⟨#[44]⟩ w (fun j x hx => ?_) (lt_of_some (g.sat _ _ hk)) (by omega) hc ?_
  · simp only [World.cell?, g.sat _ _ hk]
    simpa using hat j (.string x) (by simp [hx])
  · simp only [bjoin, ByteArray.size, List.size_toArray] at hsz
    exact Nat.le_trans hsz (by omega)
attribute [local irreducible] St SL Qs NOp TK SQ RS Fn FnV FnP
def bcall (w : ByteArray) (l : List ByteArray) : ByteArray := w ++ ⟨#[40]⟩ ++ bjoin l ++ ⟨#[41]⟩
theorem bcall_size (w : ByteArray) (l : List ByteArray) : (bcall w l).size ≤ w.size + bsum l + l.length + 2 := by
  have := bjoin_size l
  have e1 : (⟨#[40]⟩ : ByteArray).size = 1 := rfl
  have e2 : (⟨#[41]⟩ : ByteArray).size = 1 := rfl
  simp only [bcall, ByteArray.size_append, e1, e2]
  omega
theorem Call_v (h : GH) (v : Value) (n : Nat) (s : ByteArray) (l : List ByteArray) (hs : Sl h v n (l.map Value.string)) (hn : l.length = n) (hne : l ≠ []) (hb : bsum l ≤ 1000000000) (hn2 : n ≤ 1000000) (hs2 : s.size ≤ 1000) : FnV Tryd.prog h 35 [.string s, v].toArray (.string (bcall s l)) := by
  have hsz := bjoin_size l
  have e1 : (⟨#[40]⟩ : ByteArray).size = 1 := rfl
  have e2 : (⟨#[41]⟩ : ByteArray).size = 1 := rfl
  refine FnV.enter Tryd.func35 rfl rfl rfl rfl fun w hg => ?_
  repeat' (first | refine SL.callV rfl (Join_v _ _ n l hs hn hne hb hn2) rfl ?_ | refine SL.n (NOp.addS rfl rfl (by simp only [ByteArray.size_append, e1, e2]; omega)) rfl ?_ | (refine SL.isSL ?_; first | (refine SL.isN ?_; first | refine SL.nA ?_ | refine SL.alloc rfl rfl (fun b => ?_) | refine SL.box rfl rfl rfl (fun b => ?_)) | (refine SL.isG ?_; first | refine SL.gF rfl rfl rfl ?_ | refine SL.gU rfl rfl rfl ?_ | refine SL.gA ?_) | (refine SL.isSt ?_; refine SL.stA ?_) | refine SL.nil ?_ | (refine SL.isG ?_; first | refine SL.gCase rfl rfl (fun e => ?_) (fun e => ?_) | refine SL.gCaseN rfl rfl (fun e => ?_) (fun e => ?_))) | (refine St.isSt ?_; first | refine St.seq ?_ | refine St.region ?_ | refine St.block ?_ | refine St.ret ?_ | refine St.skip ?_ | refine St.exit ?_ | refine St.condT rfl ?_ | refine St.condF rfl ?_ | refine St.condY rfl (by omega) ?_ | refine St.condZ rfl (by omega) ?_) | (refine Qs.isQs ?_; first | refine Qs.then_normal ?_ | refine Qs.then_rounds ?_ | refine Qs.then_ret ?_ | refine Qs.then_exit ?_ | refine Qs.block_normal ?_ | refine Qs.block_ret ?_ | refine Qs.block_here ?_ | refine Qs.block_other rfl ?_) | refine RS.step ?_)
  exact Qs.retV rfl rfl rfl
end Go.Proofs.YtfookachkcgdpaaDoor
