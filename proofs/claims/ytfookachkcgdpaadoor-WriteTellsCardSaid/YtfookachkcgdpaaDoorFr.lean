/- WriteTells holds: whatever the input, the call returns true and leaves its arguments as they were; the card is tied to the program's text. No condition. -/
import Derived.Test.YtfookachkcgdpaaDoorLw
import Derived.Test.YtfookachkcgdpaaDoorCards
import Derived.Test.YtfookachkcgdpaaDoorTie
import Derived.WalkKit
import Derived.ProofKit
import Derived.OpenShut
import Derived.Deep.DeepHandedRow
import Derived.Deep.Strs
import Derived.Lib.LaidTab
import Derived.Stop.LaidErr
import Derived.Carry
set_option linter.unusedVariables false
set_option linter.unusedSimpArgs false
set_option linter.constructorNameAsVariable false
set_option maxRecDepth 100000
namespace Go.Proofs.YtfookachkcgdpaaDoor
open Go.ChangeShapes Go.WideShapes Go.ChangeAt Go.RowKit
open Go.ChangeMaps (open_string shut_string)

theorem own : ownKnob Tryd.prog.godebug = none := by kernel_rfl
theorem gPow : Tryd.prog.globalNamed "internal/strconv.uint64pow10" = some 0 := by kernel_rfl
theorem gPowType : (Tryd.prog.globals[0]?).map (·.type) = some 168 := by kernel_rfl
theorem cellsPow : Tryd.prog.cellsOf 168 = 20 := by kernel_rfl
theorem cells64 : Tryd.prog.cellsOf 159 = 1 := by kernel_rfl
theorem cellsInt : Tryd.prog.cellsOf 3 = 1 := by kernel_rfl
theorem cellsStr : Tryd.prog.cellsOf 9 = 1 := by kernel_rfl
theorem cellsInts : Tryd.prog.cellsOf 22 = 1 := by kernel_rfl
theorem cellsStrs : Tryd.prog.cellsOf 23 = 1 := by kernel_rfl
theorem cellsPlan : Tryd.prog.cellsOf 25 = 2 := by kernel_rfl
theorem laidOut : laidOutB Tryd.prog = true := by kernel_rfl

/-- WHAT THE ROW's LIST GIVES: the table of powers of ten. -/
theorem table {W : World} (h : laidMetH Tryd.prog Rows.writeTellsRow.laid W) : Lib.TabIs Tryd.prog W "internal/strconv.uint64pow10" .u64 Lib.pow10Tab := by
  have h0 : laidMet Tryd.prog Rows.writeTellsRow.laid W := h
  have h1 := h0.tail.tail
  exact Lib.tabIs_of_head (rest := []) gPow gPowType Tryd.underlying168 Tryd.underlying159 cells64 cellsPow h1
/-- All that lies in the world's memory, held still. -/
def allOf (W : World) : GH := fun b => W.heap[b]?
theorem allOf_good (W : World) : Good W (allOf W) [] := ⟨fun b o h => h, fun q hq => (by cases hq), fun q hq => (by cases hq), List.Pairwise.nil⟩
theorem table_tab {W : World} (h : Lib.TabIs Tryd.prog W "internal/strconv.uint64pow10" .u64 Lib.pow10Tab) : TabG (allOf W) := by
  unfold Lib.TabIs World.var? at h
  rw [gPow, Option.bind_some] at h
  cases hb : W.heap[0]? with
  | none => rw [hb] at h; cases h
  | some o =>
    rw [hb] at h
    cases o with
    | cells cs e fr =>
      simp only [Option.some.injEq] at h
      subst h
      exact ⟨0, e, fr, gPow, hb⟩
    | _ => cases h
theorem cell_all {W : World} {b off : Nat} {v : Value} (h : W.cell? ⟨b, off, none⟩ = some v) : ∃ ar e fr, allOf W b = some (.cells ar e fr) ∧ ar[off]? = some v := by
  unfold World.cell? at h
  cases hb : W.heap[b]? with
  | none => simp [hb] at h
  | some o =>
    cases o with
    | cells cs e fr => simp [hb] at h; exact ⟨cs, e, fr, hb, h⟩
    | _ => simp [hb] at h
/-- A row of cells of the world, at a plain place. -/
theorem rd_all {W : World} {a : Addr} {n : Nat} {V : Nat → Value} (h : ∀ i, i < n → W.cell? (a.add i) = some (V i)) : Rd (allOf W) (some a) ((List.range n).map V) := by
  intro hne
  have hn : 0 < n := by cases n with
    | zero => simp at hne
    | succ n => omega
  obtain ⟨b, off, spot⟩ := a
  have hspot : spot = none := by simpa [Addr.add] using World.cell?_spot (h 0 hn)
  subst hspot
  have h' : ∀ i, i < n → W.cell? ⟨b, off + i, none⟩ = some (V i) := fun i hi => by rw [← Go.WideShapes.add_plain]; exact h i hi
  obtain ⟨ar, e, fr, hb, _⟩ := cell_all (h' 0 hn)
  refine ⟨b, off, ar, e, fr, rfl, hb, fun j v hj => ?_⟩
  have hjn : j < n := by have := (List.getElem?_eq_some_iff.1 hj).1; simpa using this
  obtain ⟨ar2, e2, fr2, hb2, h2⟩ := cell_all (h' j hjn)
  rw [hb] at hb2
  injection hb2 with hb2
  injection hb2 with hb2 _ _
  subst hb2
  simp [hjn] at hj
  rw [← hj]; exact h2
/-- WHAT A PLAN IS, AS THE CALL FINDS IT. -/
theorem plan_of {H : Type} {enc : TypeId × Value → H} {W : World} {base : Nat} {v : Value} {d : DataW H} {ps : List MemPlace} (hd : DataW.Trod enc Tryd.prog W 0 (fun _ => true) true 25 v d ps) (hv : Value.okWide Tryd.prog W .any base 25 v) :
    ∃ (A : Option Addr) (c : Nat) (wv : Value) (ns : List Int) (ws : List ByteArray), v = .agg [.slice A ns.length c, wv].toArray ∧ PlanAt (allOf W) A c wv ns ws := by
  obtain ⟨fuel, hf⟩ := hd
  obtain ⟨y0, y1, m, -, hl, h0, h1⟩ := trod_struct2 Tryd.underlying25 hf
  rw [cellsPlan] at hl
  obtain ⟨nv, wv, rfl⟩ : ∃ nv wv, v = .agg [nv, wv].toArray := by
    cases v with
    | agg cs =>
      obtain ⟨cs⟩ := cs
      match cs, hl with
      | [a, b], _ => exact ⟨a, b, rfl⟩
    | _ => simp [Value.cells] at hl
  have h0' : DataW.trod enc Tryd.prog W 0 (fun _ => true) true m 22 [nv] = some y0 := by
    have := h0
    simp only [Value.cells, cellsInts] at this
    simpa using this
  have h1' : DataW.trod enc Tryd.prog W 0 (fun _ => true) true m 23 [wv] = some y1 := by
    have := h1
    simp only [Value.cells, cellsStrs] at this
    simpa using this
  have hN : ∃ (A : Option Addr) (c : Nat) (ns : List Int), nv = .slice A ns.length c ∧ Rd (allOf W) A (ns.map (Value.int .i64)) ∧ ns.length < 9223372036854775808 := by
    rcases open_ints Tryd.underlying22 Tryd.underlying3 cellsInt h0' with ⟨hc, _⟩ | ⟨a, len, cap, zs, hc, _, h2, h3, h4, _, h5, _⟩
    · simp only [List.cons.injEq, and_true] at hc
      exact ⟨none, 0, [], hc, fun hne => absurd rfl hne, by decide⟩
    · simp only [List.cons.injEq, and_true] at hc
      have hzl : len ≤ zs.length := by rw [h4]; simpa using h2
      have hlen : (zs.take len).length = len := by simp; omega
      refine ⟨some a, cap, zs.take len, by rw [hlen]; exact hc, ?_, by rw [hlen]; have : maxLen = 9223372036854775807 := rfl; omega⟩
      have hr := rd_all (W := W) (a := a) (n := len) (V := fun i => .int .i64 (zs.getD i 0)) (fun i hi => h5 i (by omega))
      have e : (List.range len).map (fun i => Value.int .i64 (zs.getD i 0)) = (zs.take len).map (Value.int .i64) := by
        apply List.ext_getElem
        · simp; omega
        · intro i h6 h7
          have h8 : i < zs.length := by simp at h6; omega
          simp [List.getD_eq_getElem?_getD, h8]
      rw [e] at hr
      exact hr
  have hS : ∃ ws : List ByteArray, Sl (allOf W) wv ws.length (ws.map Value.string) ∧ ws.length < 9223372036854775808 := by
    rcases Go.Deep.open_strs Tryd.underlying23 Tryd.underlying9 cellsStr h1' with ⟨hc, _⟩ | ⟨a, len, cap, k, Sx, hc, _, h2, h3, h4, _, h5⟩
    · simp only [List.cons.injEq, and_true] at hc
      subst hc
      exact ⟨[], Sl.nil _, by decide⟩
    · simp only [List.cons.injEq, and_true] at hc
      have hkl : len ≤ k := by rw [h4]; simpa using h2
      refine ⟨(List.range len).map Sx, ⟨some a, cap, by simpa using hc, by simpa using h2, ?_⟩, by simp; have : maxLen = 9223372036854775807 := rfl; omega⟩
      have hr := rd_all (W := W) (a := a) (n := len) (V := fun i => .string (Sx i)) (fun i hi => (h5 i (by omega)).1)
      simpa [List.map_map, Function.comp_def] using hr
  obtain ⟨A, c, ns, rfl, hA, hAl⟩ := hN
  obtain ⟨ws, hw, hwl⟩ := hS
  exact ⟨A, c, wv, ns, ws, rfl, hA, hAl, hw, hwl⟩
/-- What lies below stays: so each argument reads as it did. -/
theorem trodAll_stay {H : Type} {enc : TypeId × Value → H} {W W' : World} (hb : RowKit.Below W.heap.size W W') : ∀ {ts : List TypeId} {vs : List Value} {ds : List (DataW H)} {ps : List MemPlace}, (∀ t ∈ ts, Tryd.prog.readableRec t = true ∧ t < Tryd.prog.types.size) → DataW.TrodAll enc Tryd.prog W 0 (fun _ => true) true ts vs ds ps → (∀ x ∈ ps, x.block < W.heap.size) →
    DataW.TrodAll enc Tryd.prog W' 0 (fun b => decide (b < W.heap.size)) true ts vs ds ps := by
  intro ts
  induction ts with
  | nil => intro vs ds ps _ h _; obtain ⟨rfl, rfl, rfl⟩ := trodAll_nil h; exact trodAll_mk0
  | cons t ts ih =>
    intro vs ds ps ht h hlt
    obtain ⟨v0, vs0, d0, ds0, p0, q0, rfl, rfl, rfl, h0, r0⟩ := trodAll_cons h
    exact trodAll_cons_mk (RowKit.Below.trod laidOut (ht t (by simp)).1 (ht t (by simp)).2 h0 hb (fun x hx => hlt x (by simp [hx]))) (ih (fun u hu => ht u (by simp [hu])) r0 (fun x hx => hlt x (by simp [hx])))
theorem readable_params : ∀ t ∈ [25, 3, 9], Tryd.prog.readableRec t = true ∧ t < Tryd.prog.types.size := by
  have h : ([25, 3, 9].all fun t => Tryd.prog.readableRec t && decide (t < Tryd.prog.types.size)) = true := by kernel_rfl
  intro t ht
  have := List.all_eq_true.1 h t ht
  simpa using this

theorem params_sub : ∀ t ∈ [25, 3, 3, 3, 9, 3], t ∈ [25, 3, 9] := by decide
/-- WHAT THE WALK GIVES, FOR EVERY ARGUMENT AND EVERY WORLD THAT HOLDS THE TABLE. -/
theorem contract (H : Type) (enc : TypeId × Value → H) (W : World) (base : Nat) (args : Array Value) (ds gs : List (DataW H)) (before : List MemPlace)
    (hval : ∀ (j : Nat) t v, Tryd.f3.params[j]? = some t → args[j]? = some v → Value.okWide Tryd.prog W .any base t v)
    (hW : DataW.Whole enc Tryd.prog Tryd.f3.params.toList Rows.writeTellsSpec.vars false W args.toList ds gs before) (hL : laidMetH Tryd.prog Rows.writeTellsRow.laid W) :
    Calls Tryd.prog 3 args W fun e W' => ∃ v, e = .returned v ∧ Rows.writeTellsSpec.post enc Tryd.prog Tryd.f3 false true false false W args v W' := by
  have hW' := hW
  have hlt := fun p hp => hW.lt p hp
  obtain ⟨p, q, hA0, hV, rfl, hfz, hnd⟩ := hW
  have hA : DataW.TrodAll enc Tryd.prog W 0 (fun _ => true) true Tryd.f3.params.toList args.toList ds p := hA0
  have hA1 := hA
  rw [Tryd.params3] at hA hval
  obtain ⟨v0, vs0, d0, ds0, p0, q0, hargs, rfl, rfl, h0, r0⟩ := trodAll_cons hA
  obtain ⟨v1, vs1, d1, ds1, p1, q1, rfl, rfl, rfl, h1, r1⟩ := trodAll_cons r0
  obtain ⟨v2, vs2, d2, ds2, p2, q2, rfl, rfl, rfl, h2, r2⟩ := trodAll_cons r1
  obtain ⟨v3, vs3, d3, ds3, p3, q3, rfl, rfl, rfl, h3, r3⟩ := trodAll_cons r2
  obtain ⟨v4, vs4, d4, ds4, p4, q4, rfl, rfl, rfl, h4, r4⟩ := trodAll_cons r3
  obtain ⟨v5, vs5, d5, ds5, p5, q5, rfl, rfl, rfl, h5, r5⟩ := trodAll_cons r4
  obtain ⟨rfl, rfl, rfl⟩ := trodAll_nil r5
  obtain rfl : args = #[v0, v1, v2, v3, v4, v5] := by cases args; simp_all
  obtain ⟨rfl, rfl⟩ := trodVars_none hV
  obtain ⟨A, c, wv, ns, ws, rfl, hpl⟩ := plan_of h0 (hval 0 _ v0 rfl rfl)
  obtain ⟨n1, rfl, rfl, rfl, w1⟩ := open_int Tryd.underlying3 (hval 1 _ v1 rfl rfl) h1
  obtain ⟨n2, rfl, rfl, rfl, w2⟩ := open_int Tryd.underlying3 (hval 2 _ v2 rfl rfl) h2
  obtain ⟨n3, rfl, rfl, rfl, w3⟩ := open_int Tryd.underlying3 (hval 3 _ v3 rfl rfl) h3
  obtain ⟨s4, rfl, rfl, rfl, w4⟩ := open_string Tryd.underlying9 (hval 4 _ v4 rfl rfl) h4
  obtain ⟨n5, rfl, rfl, rfl, w5⟩ := open_int Tryd.underlying3 (hval 5 _ v5 rfl rfl) h5
  refine (Law_v A c wv ns ws n1 n2 n3 n5 s4 (allOf W) hpl (table_tab (table hL)) W (allOf_good W)).mono fun e W' ⟨v, h', M', he, hi, hv, _, _⟩ => ?_
  subst he hv
  have hb : RowKit.Below W.heap.size W W' := ⟨hi.step.os, hi.step.tape, hi.step.output, hi.step.size, fun k hk => hi.step.frame k hk (fun p hp => by cases hp)⟩
  refine ⟨_, rfl, _, _, _, [], _, [], hW', trodAll_cons_mk (shut_bool Tryd.underlying4 _) trodAll_mk0, trodAll_stay hb (fun t ht => readable_params t (params_sub t (by rw [Tryd.params3] at ht; exact ht))) hA1 (fun x hx => hlt x (by simpa using hx)), rfl, hb.frame _, fun h => by cases h⟩
/-! ### the frame -/
abbrev wArgs : Array Value := #[.agg #[.slice none 0 0, .slice none 0 0], .int .i64 0, .int .i64 0, .int .i64 0, .string .empty, .int .i64 0]
def put0 (d : List Value) : Obj → Obj
  | .cells _ t frozen => .cells d.toArray t frozen
  | o => o
def tab32 : List Int := [0, 1, 28, 2, 29, 14, 24, 3, 30, 22, 20, 15, 25, 17, 4, 8, 31, 27, 13, 23, 21, 19, 16, 7, 26, 12, 18, 6, 11, 5, 10, 9]
def tab64 : List Int := [0, 1, 56, 2, 57, 49, 28, 3, 61, 58, 42, 50, 38, 29, 17, 4, 62, 47, 59, 36, 45, 43, 51, 22, 53, 39, 33, 30, 24, 18, 12, 5, 63, 55, 48, 27, 60, 41, 37, 16, 46, 35, 44, 21, 52, 32, 23, 11, 54, 26, 40, 15, 34, 20, 31, 10, 25, 14, 19, 9, 13, 8, 7, 6]
/-- A WORLD FOR THE WITNESS: the settled one, the three tables holding what their initialisers lay. -/
noncomputable def laidWorld (os : Os) : World :=
  { World.holding Tryd.prog os ⟨#[], #[], []⟩ with heap := (((World.holding Tryd.prog os ⟨#[], #[], []⟩).heap.modify 0 (put0 (Lib.pow10Tab.map (Value.int .u64)))).modify 2 (put0 (tab32.map (Value.int .u8)))).modify 3 (put0 (tab64.map (Value.int .u8))) }
theorem laid_met (os : Os) : laidMet Tryd.prog Rows.writeTellsRow.laid ((laidWorld os).forCall (fun _ _ => 0) ⟨#[], wArgs, []⟩).memory :=
  laidMet_of_run' 8 (by kernel_rfl) (by kernel_rfl)
theorem reads (os : Os) {H : Type} (enc : TypeId × Value → H) : ∃ places, DataW.whole enc Tryd.prog ((laidWorld os).forCall (fun _ _ => 0) ⟨#[], wArgs, []⟩).memory Tryd.f3.params.toList Rows.writeTellsSpec.vars false wArgs.toList 8 = some ([.agg [.nil, .nil], .lit (.int .i64 0), .lit (.int .i64 0), .lit (.int .i64 0), .lit (.string []), .lit (.int .i64 0)], [], places) :=
  ⟨[], by kernel_rfl⟩
theorem lifted (os : Os) (started : os.Started) (H : Type) (enc : TypeId × Value → H) (F : Stop.Interp) :
    ReturnsInHanded {} Tryd.checked os 3 .any ((OpenSpec.ofChange Rows.writeTellsSpec).preRow enc Tryd.prog Tryd.f3 Rows.writeTellsRow.domain false Rows.writeTellsRow.laid) (((OpenSpec.ofChange Rows.writeTellsSpec).at F).post enc Tryd.prog Tryd.f3 false true false false) := by
  obtain ⟨places, hx⟩ := reads os enc
  refine returnsInHanded_of_row (C := Tryd.checked) (s := OpenSpec.ofChange Rows.writeTellsSpec) own started (by kernel_rfl) Tryd.func3
    (witness_row_at (enc := enc) (C := Tryd.checked) false (laidWorld os) wArgs rfl (by kernel_rfl) (by kernel_rfl) (by kernel_rfl)
      (OpenSpec.preRow_of_cond 8 hx (by kernel_rfl) (fun k hk => by cases hk) (by kernel_rfl) (laid_met os))) ?_
  intro W base args ds gs before hval hW _ _ _ hL _ _
  exact contract H enc W base args ds gs before hval hW hL
theorem said : Rows.WriteTellsSaid :=
  OpenClaim.holds_of_cond 3 Tryd.f3 rfl rfl rfl rfl rfl rfl rfl ⟨rfl, rfl, rfl, rfl, rfl⟩ rfl rfl rfl rfl rfl (by kernel_rfl) Tryd.func3 (by kernel_rfl)
    (of_decide_eq_true (by kernel_rfl)) (by unfold Func.isWrapper; first | (rw [if_pos (by decide +kernel)]; kernel_rfl) | (rw [if_neg (by decide +kernel)]; exact ⟨rfl, rfl⟩))
    (fun os started H enc _ F => by rw [OpenClaim.pre_eq_preRow]; exact lifted os started H enc F)
/-- No parameter wants a stand-in; the program's own looks: what the card asks. -/
theorem plain (f : FuncId) (fn : Func) (hf : Tryd.pinned.checked.prog.funcNamed "handfast/handfastlaw06.WriteTells" = some f) (hfn : Tryd.pinned.checked.prog.funcs[f]? = some fn) :
    true = Tryd.pinned.checked.prog.looks [] ∧ ∀ (j : Nat) t, fn.params[j]? = some t → Tryd.pinned.checked.prog.wantsStandIn t = false := by
  obtain rfl : f = 3 := Option.some.inj ((show Tryd.prog.funcNamed "handfast/handfastlaw06.WriteTells" = some 3 by kernel_rfl).symm.trans hf) |>.symm
  obtain rfl : fn = Tryd.f3 := (Option.some.inj (Tryd.func3.symm.trans hfn)).symm
  refine ⟨by kernel_rfl, fun j t ht => ?_⟩
  rw [Tryd.params3] at ht
  have hm : t ∈ [25, 3, 9] := params_sub t (by have := Array.mem_of_getElem? ht; exact Array.mem_def.1 this)
  have hall : ([25, 3, 9].all fun u => !Tryd.prog.wantsStandIn u) = true := by kernel_rfl
  exact (show Tryd.prog.wantsStandIn t = false by simpa using List.all_eq_true.1 hall t hm)
/-- THE CARD -/
theorem card_holds : Rows.WriteTellsCardSaid :=
  Claim7.holds_tied_plain_at .later [] _ _ _ _ said (fun _ h => by cases h) (by kernel_rfl) (fun _ h => by cases h) writeTells_row_tie rfl ⟨rfl, rfl⟩ (by kernel_rfl) rfl plain (by kernel_rfl)
end Go.Proofs.YtfookachkcgdpaaDoor
