/- Two results of which one lies in a cell; a row of one's own, read and written in its midst. Plain theorems; no condition. -/
import Derived.Test.YtfookachkcgdpaaDoorM5
import Derived.Test.YtfookachkcgdpaaDoorLc
import Derived.Test.YtfookachkcgdpaaDoorTr
set_option linter.unusedVariables false
set_option linter.unusedSimpArgs false
namespace Go.Proofs.YtfookachkcgdpaaDoor
open Go.RowKit
section
variable {P : Program} {nn : Nat} {E : Env} {Q : Exit → Act → World → Prop} {l l' : Fr} {h : GH} {M : Blks} {ops : Array Oper} {rest : List Oper}
variable {d : Option Tmp} {ty : TypeId} {pos : String} {aft : Array Edge} {g : Option (Nat × Bool)} {op : Op}
theorem cell_load {ct : TypeId} {dsc : TypeDesc} {sz : Nat} {z : Value} [TI P ct dsc sz z true] {w : World} {b off : Nat} {xs vs : List Value} {e : TypeId} (hg : Good w h M) {i : Nat} (hM : nth? M i = some (b, cel xs e)) (hv : takeL xs off sz = some vs) :
    (loadVar ct ⟨b, off, none⟩).run P w = .ok (.agg vs.toArray) w := by
  obtain ⟨h1, h2⟩ := takeL_get hv
  have hl := load_many (P := P) (t := ct) (w := w) (b := b) (off := off) h1 (fun j v hj => by
    have hlt : j < sz := by rw [← h1]; exact (List.getElem?_eq_some_iff.1 hj).1
    exact cell_owned hg (nth_mem hM) (by simpa using (h2 j hlt).trans hj))
  simpa only [Instr.loadAt, Instr.sureAddr, Sem.run_bind, Sem.run_pure, Result.andThen_ok] using hl
theorem Qs.retCT {fn : Func} {t u : Nat} {ct : TypeId} {b off : Nat} {xs vs : List Value} {v2 : Value} {e : TypeId} {dsc : TypeDesc} {sz : Nat} {z : Value} [TI P ct dsc sz z true] {post : Value → GH → Blks → Prop} (i : Nat) (hr : fn.results = #[.cell t ct, .tmp u]) (hx : lk l t = some (.pointer (some ⟨b, off, none⟩))) (hM : nth? M i = some (b, cel xs e))
    (hv : takeL xs off sz = some vs) (hu : lk l u = some v2) (R : Blks) (hs : R.Sublist M) (hp : post (.tuple [.agg vs.toArray, v2].toArray) h R) :
    Qs nn E (bodyPost P fn (Post E post)) .ret l h M := fun a w ha hi => by
  have hl := cell_load (P := P) (ct := ct) hi.good hM hv
  have h3 : (results fn a.tmps).run P w = .ok (.tuple [.agg vs.toArray, v2].toArray) w := by
    have e1 := ha.ev t _ hx
    have e2 := ha.ev u _ hu
    simp [results, hr, Array.getD_eq_getD_getElem?, e1, e2, asAddr, hl]
  exact ⟨ha.defers, _, h3, _, h, R, rfl, hi.sublist hs, hp⟩
theorem Qs.retTC {fn : Func} {t u : Nat} {ct : TypeId} {b off : Nat} {xs vs : List Value} {v2 : Value} {e : TypeId} {dsc : TypeDesc} {sz : Nat} {z : Value} [TI P ct dsc sz z true] {post : Value → GH → Blks → Prop} (i : Nat) (hr : fn.results = #[.tmp u, .cell t ct]) (hx : lk l t = some (.pointer (some ⟨b, off, none⟩))) (hM : nth? M i = some (b, cel xs e))
    (hv : takeL xs off sz = some vs) (hu : lk l u = some v2) (R : Blks) (hs : R.Sublist M) (hp : post (.tuple [v2, .agg vs.toArray].toArray) h R) :
    Qs nn E (bodyPost P fn (Post E post)) .ret l h M := fun a w ha hi => by
  have hl := cell_load (P := P) (ct := ct) hi.good hM hv
  have h3 : (results fn a.tmps).run P w = .ok (.tuple [v2, .agg vs.toArray].toArray) w := by
    have e1 := ha.ev t _ hx
    have e2 := ha.ev u _ hu
    simp [results, hr, Array.getD_eq_getD_getElem?, e1, e2, asAddr, hl]
  exact ⟨ha.defers, _, h3, _, h, R, rfl, hi.sublist hs, hp⟩
theorem NOp.ldOA {t : TypeId} {x : Operand} {b off : Nat} {xs : List Value} {e : TypeId} {vs : List Value} {dsc sz z} [TI P t dsc sz z true] (i : Nat) (hx : lko l x = some (.pointer (some ⟨b, off, none⟩))) (hM : nth? M i = some (b, cel xs e)) (hl : lenIs vs sz = true) (hv : ∀ j v, vs[j]? = some v → xs[off + j]? = some v) :
    NOp P h M l ⟨d, .load t x, ty, pos, aft, g⟩ (.agg vs.toArray) := fun a w h' _ gd ha => by
  have := load_many (P := P) (t := t) (w := w) (b := b) (off := off) (lenIs_eq hl) (fun j v hj => cell_owned gd (nth_mem hM) (by simpa using hv j v hj))
  simp only [execOp, ha.eval hx, Sem.run_bind, this, Result.andThen_ok, Sem.run_pure]
end
theorem putL_mid (A old B c : List Value) (hl : old.length = c.length) : putL (A ++ (old ++ B)) A.length c = A ++ (c ++ B) := by
  apply List.ext_getElem?
  intro i
  rw [putL_get _ _ _ (by simp; omega)]
  by_cases h1 : i < A.length
  · rw [if_neg (by omega), List.getElem?_append_left h1, List.getElem?_append_left h1]
  · by_cases h2 : i - A.length < c.length
    · rw [if_pos (by omega), List.getElem?_append_right (by omega), List.getElem?_append_left h2]
    · rw [if_neg (by omega), List.getElem?_append_right (by omega), List.getElem?_append_right (by omega), List.getElem?_append_right (by omega), List.getElem?_append_right (by omega), hl]
theorem stL_mid (A old B c : List Value) (off : Nat) (ho : off = A.length) (hl : old.length = c.length) : stL (A ++ (old ++ B)) off c = some (A ++ (c ++ B)) := by
  subst ho
  have hb : Nat.ble (A.length + c.length) (A ++ (old ++ B)).length = true := by rw [Nat.ble_eq]; simp; omega
  unfold stL
  rw [hb]
  simp only [force_eq, putL_mid A old B c hl]
/-- What an owned row holds, with what lies behind it. -/
theorem OwnS.lit {e : TypeId} {sz n : Nat} {v : Value} {xs : List Value} {ob : Blks} (o : OwnS e sz v n xs ob) (hn : n ≠ 0) : xs.length = n * sz ∧ ∃ g cap sp, v = .slice (some ⟨g, 0, none⟩) n cap ∧ ob = [(g, cel (xs ++ sp) e)] ∧ n ≤ cap ∧ cap ≤ maxLen ∧ (xs ++ sp).length = cap * sz := by
  obtain ⟨h1, h2⟩ := o
  refine ⟨h1, ?_⟩
  rcases h2 with ⟨hv, hn0, rfl⟩ | ⟨b, cap, cur, hv, rfl, h3, h4, h5, h6⟩
  · exact absurd hn0 hn
  · refine ⟨b, cap, cur.toList.drop (n * sz), hv, ?_, h3, h4, ?_⟩
    · rw [← h6, List.take_append_drop]
    · rw [← h6, List.take_append_drop]; simpa using h5
theorem OwnS.mk {e : TypeId} {sz n cap g : Nat} {xs sp : List Value} (h1 : xs.length = n * sz) (h3 : n ≤ cap) (h4 : cap ≤ maxLen) (h5 : (xs ++ sp).length = cap * sz) : OwnS e sz (.slice (some ⟨g, 0, none⟩) n cap) n xs [(g, cel (xs ++ sp) e)] :=
  ⟨h1, .inr ⟨g, cap, _, rfl, rfl, h3, h4, by simpa using h5, by simp [← h1]⟩⟩
end Go.Proofs.YtfookachkcgdpaaDoor
