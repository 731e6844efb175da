/- More of the engine's lemmas: indexes, slices of strings, conversions. Plain theorems; no condition. -/
import Derived.Test.YtfookachkcgdpaaDoorInst
import Derived.Maps.AppendAt
set_option linter.unusedVariables false
set_option linter.unusedSimpArgs false
namespace Go.Proofs.YtfookachkcgdpaaDoor
open Go.RowKit
section
variable {P : Program} {nn : Nat} {E : Env} {Q : Exit → Act → World → Prop} {l : Fr} {h : GH} {M : Blks} {ops : Array Oper} {rest : List Oper}
variable {d : Option Tmp} {ty : TypeId} {pos : String} {aft : Array Edge} {g : Option (Nat × Bool)}
theorem NOp.idx {t e : TypeId} {s ix : Operand} {b off n c sz : Nat} {k : IntKind} {j : Int} {d2 : TypeDesc} {s1 : Nat} {z1 z2 : Value} {a1 a2 : Bool} [TI P t (.slice e) s1 z1 a1] [TI P e d2 sz z2 a2] (hs : lko l s = some (.slice (some ⟨b, off, none⟩) n c)) (hi : lko l ix = some (.int k j)) (hj : 0 ≤ j ∧ j < n) :
    NOp P h M l ⟨d, .indexAddr t s ix, ty, pos, aft, g⟩ (.pointer (some ⟨b, off + j.toNat * sz, none⟩)) := fun a w h' _ _ ha => by
  simp only [execOp, ha.eval hs, ha.eval hi, Instr.indexAt, asIntOf, Sem.run_bind, Sem.run_pure, Result.andThen_ok, run_underlying (TI.und (P := P) (t := t)), hj, and_self, if_true, TI.size (P := P) (t := e), Addr.add_lit']
theorem NOp.idxN {t e : TypeId} {s ix : Operand} {b off n c sz : Nat} {k : IntKind} {j : Nat} {d2 : TypeDesc} {s1 : Nat} {z1 z2 : Value} {a1 a2 : Bool} [TI P t (.slice e) s1 z1 a1] [TI P e d2 sz z2 a2] (hs : lko l s = some (.slice (some ⟨b, off, none⟩) n c)) (hi : lko l ix = some (.int k (j : Int))) (hj : j < n) :
    NOp P h M l ⟨d, .indexAddr t s ix, ty, pos, aft, g⟩ (.pointer (some ⟨b, off + j * sz, none⟩)) := by
  have := NOp.idx (P := P) (h := h) (M := M) (d := d) (ty := ty) (pos := pos) (aft := aft) (g := g) (t := t) (e := e) hs hi ⟨by omega, by omega⟩
  simpa using this
theorem NOp.idxS {t : TypeId} {s ix : Operand} {st : ByteArray} {k : IntKind} {j : Int} {v : UInt8} {s1 : Nat} {z1 : Value} {a1 : Bool} [TI P t .string s1 z1 a1] (hs : lko l s = some (.string st)) (hi : lko l ix = some (.int k j)) (hj : 0 ≤ j) (hv : st.data.toList[j.toNat]? = some v) :
    NOp P h M l ⟨d, .index t s ix, ty, pos, aft, g⟩ (.int .u8 v.toNat) := fun a w h' _ _ ha => by
  have hv' : st[j.toNat]? = some v := by
    have hlt : j.toNat < st.size := by
      have := (List.getElem?_eq_some_iff.1 hv).1
      simpa using this
    rw [getElem?_pos st j.toNat hlt]
    rw [Array.getElem?_toList] at hv
    rw [Array.getElem?_eq_getElem hlt] at hv
    exact hv
  simp only [execOp, ha.eval hs, ha.eval hi, Instr.index, asIntOf, Sem.run_bind, Sem.run_pure, Result.andThen_ok, run_underlying (TI.und (P := P) (t := t)), hj, if_true, hv']
theorem NOp.cv {src dst : TypeId} {x : Operand} {u r : Value} (hx : lko l x = some u) (hr : ∀ w, (convert src dst u).run P w = .ok r w) : NOp P h M l ⟨d, .convert src dst x, ty, pos, aft, g⟩ r := fun a w h' _ _ ha => by
  simp only [execOp, ha.eval hx, Sem.run_bind, hr w, Result.andThen_ok, Sem.run_pure]
theorem NOp.toInt {src dst : TypeId} {x : Operand} {k : IntKind} {m : Int} {s1 s2 : Nat} {z1 z2 : Value} {a1 a2 : Bool} {k2 : IntKind} [TI P src (.int k) s1 z1 a1] [TI P dst (.int k2) s2 z2 a2] (hx : lko l x = some (.int k m)) :
    NOp P h M l ⟨d, .convert src dst x, ty, pos, aft, g⟩ (.int k2 (k2.wrap m)) := NOp.cv hx fun w => by
  simp [convert, run_underlying (TI.und (P := P) (t := src)), run_underlying (TI.und (P := P) (t := dst)), Conv.intToInt]
theorem NOp.slLH {t : TypeId} {x lo hi : Operand} {u v1 v2 r : Value} (hx : lko l x = some u) (h1 : lko l lo = some v1) (h2 : lko l hi = some v2) (hr : ∀ w, (Instr.sliceAt t u (some v1) (some v2) none).run P w = .ok r w) : NOp P h M l ⟨d, .slice t x (some lo) (some hi) none, ty, pos, aft, g⟩ r := fun a w h' _ _ ha => by
  simp only [execOp, ha.eval hx, ha.eval h1, ha.eval h2, Option.map_some, Option.map_none, Sem.run_bind, hr w, Result.andThen_ok, Sem.run_pure]
theorem NOp.slH {t : TypeId} {x hi : Operand} {u v2 r : Value} (hx : lko l x = some u) (h2 : lko l hi = some v2) (hr : ∀ w, (Instr.sliceAt t u none (some v2) none).run P w = .ok r w) : NOp P h M l ⟨d, .slice t x none (some hi) none, ty, pos, aft, g⟩ r := fun a w h' _ _ ha => by
  simp only [execOp, ha.eval hx, ha.eval h2, Option.map_some, Option.map_none, Sem.run_bind, hr w, Result.andThen_ok, Sem.run_pure]
theorem NOp.slL {t : TypeId} {x lo : Operand} {u v1 r : Value} (hx : lko l x = some u) (h1 : lko l lo = some v1) (hr : ∀ w, (Instr.sliceAt t u (some v1) none none).run P w = .ok r w) : NOp P h M l ⟨d, .slice t x (some lo) none none, ty, pos, aft, g⟩ r := fun a w h' _ _ ha => by
  simp only [execOp, ha.eval hx, ha.eval h1, Option.map_some, Option.map_none, Sem.run_bind, hr w, Result.andThen_ok, Sem.run_pure]
theorem NOp.sliceSH {t : TypeId} {x hi : Operand} {st : ByteArray} {k2 : IntKind} {b : Int} {s1 : Nat} {z1 : Value} {a1 : Bool} [TI P t .string s1 z1 a1] (hx : lko l x = some (.string st)) (hhi : lko l hi = some (.int k2 b)) (h1 : 0 ≤ b) (h3 : b ≤ st.size) :
    NOp P h M l ⟨d, .slice t x none (some hi) none, ty, pos, aft, g⟩ (.string (st.extract 0 b.toNat)) := NOp.slH hx hhi fun w => by
  simp [Instr.sliceAt, Instr.slice, Instr.sliceBounds, Instr.sliceBound, asIntOf, run_underlying (TI.und (P := P) (t := t)), h1, h3]
/-- max, min of two numbers. -/
theorem NOp.max2 {x y : Operand} {ats : Array TypeId} {m q : Int} (hx : lko l x = some (.int .i64 m)) (hy : lko l y = some (.int .i64 q)) :
    NOp P h M l ⟨d, .call { callee := .builtin .max, args := #[x, y], argTypes := ats }, ty, pos, aft, g⟩ (.int .i64 (if m < q then q else m)) := NOp.bi (lks_two hx hy) fun w cs => by
  simp [builtin, Builtin.max_, Builtin.max2]
theorem NOp.min2 {x y : Operand} {ats : Array TypeId} {m q : Int} (hx : lko l x = some (.int .i64 m)) (hy : lko l y = some (.int .i64 q)) :
    NOp P h M l ⟨d, .call { callee := .builtin .min, args := #[x, y], argTypes := ats }, ty, pos, aft, g⟩ (.int .i64 (if q < m then q else m)) := NOp.bi (lks_two hx hy) fun w cs => by
  simp [builtin, Builtin.min_, Builtin.min2]
end
end Go.Proofs.YtfookachkcgdpaaDoor
/- More of the engine's lemmas: undecided guards, append, ranges over strings, function values, rounds one by one. Plain theorems; no condition. -/
set_option linter.unusedVariables false
set_option linter.unusedSimpArgs false
namespace Go.Proofs.YtfookachkcgdpaaDoor
open Go.RowKit
/-! ### slices that are read -/
def Rd (h : GH) (A : Option Addr) (cs : List Value) : Prop := cs ≠ [] → ∃ b off ar e fr, A = some ⟨b, off, none⟩ ∧ h b = some (.cells ar e fr) ∧ ∀ j v, cs[j]? = some v → ar[off + j]? = some v
def Sl (h : GH) (v : Value) (n : Nat) (cs : List Value) : Prop := ∃ A c, v = .slice A n c ∧ n ≤ c ∧ Rd h A cs
theorem Rd.le {h h' : GH} {A : Option Addr} {cs : List Value} (k : Rd h A cs) (hle : GH.le h h') : Rd h' A cs := fun hn => by
  obtain ⟨b, off, ar, e, fr, h1, h2, h3⟩ := k hn
  exact ⟨b, off, ar, e, fr, h1, hle _ _ h2, h3⟩
theorem Sl.le {h h' : GH} {v : Value} {n : Nat} {cs : List Value} (k : Sl h v n cs) (hle : GH.le h h') : Sl h' v n cs := by
  obtain ⟨A, c, h1, h2, h3⟩ := k
  exact ⟨A, c, h1, h2, h3.le hle⟩
theorem Rd.lit {h : GH} {b : Nat} {r : List Value} {e : TypeId} (hb : h b = some (cel r e)) : Rd h (some ⟨b, 0, none⟩) r := fun _ => ⟨b, 0, _, _, _, rfl, hb, fun j v hj => by simpa using hj⟩
theorem Sl.lit {h : GH} {b n : Nat} {r : List Value} {e : TypeId} (hb : h b = some (cel r e)) : Sl h (.slice (some ⟨b, 0, none⟩) n n) n r := ⟨_, _, rfl, Nat.le_refl _, Rd.lit hb⟩
theorem Sl.nil (h : GH) : Sl h (.slice none 0 0) 0 [] := ⟨_, _, rfl, Nat.le_refl _, fun hn => absurd rfl hn⟩

class EI (P : Program) (e : TypeId) (sz : outParam Nat) (z : outParam Value) : Prop where
  info : ((P.info? e).map fun i => (i.zero, i.size, Nat.ble i.bytes 4096)) = some (some z, sz, true)
def OwnS (e : TypeId) (sz : Nat) (v : Value) (n : Nat) (xs : List Value) (ob : Blks) : Prop := xs.length = n * sz ∧ ((v = .slice none 0 0 ∧ n = 0 ∧ ob = []) ∨
  ∃ g cap cur, v = .slice (some ⟨g, 0, none⟩) n cap ∧ ob = [(g, .cells cur e (0, 0))] ∧ n ≤ cap ∧ cap ≤ maxLen ∧ cur.size = cap * sz ∧ cur.toList.take (n * sz) = xs)
theorem OwnS.nil (e : TypeId) (sz : Nat) : OwnS e sz (.slice none 0 0) 0 [] [] := ⟨by simp, .inl ⟨rfl, rfl, rfl⟩⟩
theorem OwnS.row {w : World} {h : GH} {e : TypeId} {sz n : Nat} {v : Value} {xs : List Value} {ob R : Blks} (o : OwnS e sz v n xs ob) (g : Good w h (ob ++ R)) : w.ownsRow 0 e sz v n xs := by
  obtain ⟨h1, h2⟩ := o
  refine ⟨h1, ?_⟩
  rcases h2 with ⟨hv, hn, rfl⟩ | ⟨b, cap, cur, hv, rfl, h3, h4, h5, h6⟩
  · exact .inl ⟨hv, hn⟩
  · exact .inr ⟨b, cap, cur, hv, Nat.zero_le _, g.mem (b, .cells cur e (0, 0)) (by simp), h3, h4, h5, h6⟩
/-- An owned slice that is not written any more reads as what it holds. -/
theorem OwnS.shape {e : TypeId} {sz n : Nat} {v : Value} {xs : List Value} {ob : Blks} (o : OwnS e sz v n xs ob) : (v = .slice none 0 0 ∧ n = 0 ∧ xs = [] ∧ ob = []) ∨ ∃ b cap cur, v = .slice (some ⟨b, 0, none⟩) n cap ∧ ob = [(b, .cells cur e (0, 0))] ∧ n ≤ cap ∧ cap ≤ maxLen ∧ ∀ h : GH, h b = some (.cells cur e (0, 0)) → Rd h (some ⟨b, 0, none⟩) xs := by
  obtain ⟨h1, h2⟩ := o
  rcases h2 with ⟨hv, hn, rfl⟩ | ⟨b, cap, cur, hv, rfl, h3, h4, h5, h6⟩
  · subst hn; exact .inl ⟨hv, rfl, List.eq_nil_of_length_eq_zero (by simpa using h1), rfl⟩
  · refine .inr ⟨b, cap, cur, hv, rfl, h3, h4, fun h hb _ => ⟨b, 0, _, _, _, rfl, hb, fun j u hj => ?_⟩⟩
    rw [← h6, List.getElem?_take] at hj
    split at hj
    · simpa using hj
    · cases hj
section
variable {P : Program} {nn : Nat} {E : Env} {Q : Exit → Act → World → Prop} {l : Fr} {h : GH} {M : Blks} {ops : Array Oper} {rest : List Oper}
variable {ty : TypeId} {pos : String} {aft : Array Edge}

theorem SL.gCase {d j dj : Nat} {op : Op} {want : Bool} {p : Prop} [Decidable p] (hj : (ops[j]?).bind (·.dst) = some dj) (hb : lk l dj = some (.bool (decide p)))
    (k1 : p → SL P nn E ops Q (⟨some d, op, ty, pos, aft, some (j, want)⟩ :: rest) ((dj, .bool true) :: l) h M) (k2 : ¬p → SL P nn E ops Q (⟨some d, op, ty, pos, aft, some (j, want)⟩ :: rest) ((dj, .bool false) :: l) h M) :
    SL P nn E ops Q (⟨some d, op, ty, pos, aft, some (j, want)⟩ :: rest) l h M := fun a w ha hi => by
  have up : ∀ b, decide p = b → Has nn a ((dj, .bool b) :: l) := fun b hb' => ha.sub' fun t v ht => by
    simp only [lk] at ht
    cases hx : Nat.beq dj t with
    | true => rw [hx] at ht; have := Nat.eq_of_beq_eq_true hx; subst this; simp only [cond_true] at ht; rw [← ht, hb, hb']
    | false => rw [hx] at ht; exact ht
  by_cases hp : p
  · exact k1 hp a w (up true (decide_eq_true hp)) hi
  · exact k2 hp a w (up false (decide_eq_false hp)) hi
theorem SL.gCaseB {d j dj : Nat} {op : Op} {want b : Bool} (hj : (ops[j]?).bind (·.dst) = some dj) (hb : lk l dj = some (.bool b))
    (k1 : b = true → SL P nn E ops Q (⟨some d, op, ty, pos, aft, some (j, want)⟩ :: rest) ((dj, .bool true) :: l) h M) (k2 : b = false → SL P nn E ops Q (⟨some d, op, ty, pos, aft, some (j, want)⟩ :: rest) ((dj, .bool false) :: l) h M) :
    SL P nn E ops Q (⟨some d, op, ty, pos, aft, some (j, want)⟩ :: rest) l h M := fun a w ha hi => by
  have up : ∀ b', b = b' → Has nn a ((dj, .bool b') :: l) := fun b' hb' => ha.sub' fun t v ht => by
    simp only [lk] at ht
    cases hx : Nat.beq dj t with
    | true => rw [hx] at ht; have := Nat.eq_of_beq_eq_true hx; subst this; simp only [cond_true] at ht; rw [← ht, hb, hb']
    | false => rw [hx] at ht; exact ht
  cases b with
  | true => exact k1 rfl a w (up true rfl) hi
  | false => exact k2 rfl a w (up false rfl) hi
theorem Qs.retVe {fn : Func} {t : Nat} {v v0 : Value} {h0 : GH} (hE : E.h0 = h0) (hr : fn.results = #[.tmp t]) (hv : lk l t = some v) (he : v = v0) :
    Qs nn E (bodyPost P fn (Post E fun u h' M' => u = v0 ∧ h' = h0 ∧ M' = [])) .ret l h M := he ▸ Qs.retV hE hr hv
theorem SL.gCaseN {d j dj : Nat} {op : Op} {want b : Bool} (hj : (ops[j]?).bind (·.dst) = some dj) (hb : lk l dj = some (.bool (!b)))
    (k1 : b = true → SL P nn E ops Q (⟨some d, op, ty, pos, aft, some (j, want)⟩ :: rest) ((dj, .bool false) :: l) h M) (k2 : b = false → SL P nn E ops Q (⟨some d, op, ty, pos, aft, some (j, want)⟩ :: rest) ((dj, .bool true) :: l) h M) :
    SL P nn E ops Q (⟨some d, op, ty, pos, aft, some (j, want)⟩ :: rest) l h M := SL.gCaseB hj hb (fun e => k2 (by simpa using e)) (fun e => k1 (by simpa using e))
theorem SL.gU {d j dj : Nat} {op : Op} {want : Bool} (hj : (ops[j]?).bind (·.dst) = some dj) (hb : lk l dj = some undef) (hd : Nat.blt d nn = true) (k : SL P nn E ops Q rest ((d, undef) :: l) h M) :
    SL P nn E ops Q (⟨some d, op, ty, pos, aft, some (j, want)⟩ :: rest) l h M := fun a w ha hi => by
  refine wpList_step fun K hK => ?_
  have hw : Region.wanted ⟨some d, op, ty, pos, aft, some (j, want)⟩ (yielded ops a.tmps) = false := by
    simp only [Region.wanted, yielded, hj, Option.bind_some, ha.ev dj _ hb]; rfl
  rw [hw, if_neg (by simp)]
  exact hK _ _ (k _ w (ha.put hd undef) hi)
theorem Ob.gU {l' : Fr} {T : Tb} {d : Option Tmp} {j dj : Nat} {op : Op} {want : Bool} (hs : selL T l (Oper.looksAt ops ⟨d, op, ty, pos, aft, some (j, want)⟩) = some l') (hj : (ops[j]?).bind (·.dst) = some dj) (hb : lk l' dj = some undef) :
    Ob P M h l ops T ⟨d, op, ty, pos, aft, some (j, want)⟩ (.v undef) := by
  intro a w h' D hle hg hf K Q k
  have hev := selL_ev hs hf
  have hw : Region.wanted ⟨d, op, ty, pos, aft, some (j, want)⟩ (yielded ops a.tmps) = false := by
    simp only [Region.wanted, yielded, hj, Option.bind_some, hev dj _ hb]; rfl
  rw [hw, if_neg (by simp)]
  exact k undef w h' hg (Step.refl _ _ _) rfl
/-- append onto an owned slice of what is read. -/
theorem SL.append {d : Nat} {t e : TypeId} {s x : Operand} {s1 : Nat} {z1 : Value} {a1 : Bool} {sz : Nat} {z : Value} [TI P t (.slice e) s1 z1 a1] [EI P e sz z] {v : Value} {n m c : Nat} {A : Option Addr} {xs news zs : List Value} {ob R : Blks} (hs : lko l s = some v) (hx : lko l x = some (.slice A m c))
    (ho : OwnS e sz v n xs ob) (hM : M = ob ++ R) (hr : Rd h A news) (hl : news.length = m * sz) (h1 : ∀ u ∈ news, u.oneCell' = true) (hz : cellsL z = some zs) (hzl : lenIs zs sz = true) (hsz : Nat.blt 0 sz = true) (hnm : n + m ≤ 34359738368) (hd : Nat.blt d nn = true)
    (k : ∀ v' ob', OwnS e sz v' (n + m) (xs ++ news) ob' → SL P nn E ops Q rest ((d, v') :: l) h (ob' ++ R)) :
    SL P nn E ops Q (⟨some d, .call { callee := .builtin .append, args := #[s, x], argTypes := #[t, t] }, ty, pos, aft, none⟩ :: rest) l h M := by
  subst hM
  refine SL.e hd fun a w ha hi => ?_
  have hown := ho.row hi.good
  obtain ⟨i, hinf, hi2⟩ := Option.map_eq_some_iff.1 (EI.info (P := P) (e := e))
  simp only [Prod.mk.injEq] at hi2
  obtain ⟨hi3, hi4, hi5⟩ := hi2
  have hby : i.bytes ≤ 4096 := Nat.le_of_ble_eq_true hi5
  have hszp : 0 < sz := blt_lt hsz
  have hzz : z.cells.size = sz := by rw [cellsL_eq hz]; simpa using lenIs_eq hzl
  have hbytes : (n + m) * i.bytes ≤ 140737488355328 := Nat.le_trans (Nat.mul_le_mul hnm hby) (by decide)
  have fin : ∀ v' w', (Builtin.append_ #[t, t] ty #[v, .slice A m c]).run P w = .ok v' w' → w'.ownsRow 0 e sz v' (n + m) (xs ++ news) → w.grownBy w' v.ownBlock → (v'.ownBlock = v.ownBlock ∨ v'.ownBlock = some w.heap.size ∨ (v' = .slice none 0 0)) →
      ∃ v w_1 h' M', (execOp a.eval ⟨some d, .call { callee := .builtin .append, args := #[s, x], argTypes := #[t, t] }, ty, pos, aft, none⟩).run P w = .ok (.value v) w_1 ∧ Inv E w_1 h' M' ∧ SL P nn E ops Q rest ((d, v) :: l) h' M' := by
    intro v' w' hrun hown' hg hat
    have hexec : (execOp a.eval ⟨some d, .call { callee := .builtin .append, args := #[s, x], argTypes := #[t, t] }, ty, pos, aft, none⟩).run P w = .ok (.value v') w' := by
      simp only [execOp, resolve, invoke, builtin, Sem.run_bind, Sem.run_pure, Result.andThen_ok, List.map_toArray, List.map_cons, List.map_nil, ha.eval hs, ha.eval hx, hrun]
    -- the blocks of the slice before
    have hob : ∀ q ∈ ob, v.ownBlock = some q.1 := by
      rcases ho.2 with ⟨_, _, rfl⟩ | ⟨b, cap, cur, rfl, rfl, _⟩
      · simp
      · simp [Value.ownBlock]
    have hRk : ∀ q ∈ R, w'.heap[q.1]? = some q.2 := fun q hq => by
      have hm := hi.good.mem q (List.mem_append_right _ hq)
      rw [hg.block q.1 (lt_of_some hm) (fun e1 => ?_)]
      · exact hm
      · rcases ho.2 with ⟨rfl, _, _⟩ | ⟨b, cap, cur, rfl, rfl, _⟩
        · simp [Value.ownBlock] at e1
        · simp only [Value.ownBlock, Option.some.injEq] at e1
          exact (List.pairwise_append.1 hi.good.dis).2.2 (b, .cells cur e (0, 0)) (by simp) q hq e1.symm
    have hsat : ∀ b o, h b = some o → w'.heap[b]? = some o := fun b o hb => by
      have hm := hi.good.sat b o hb
      rw [hg.block b (lt_of_some hm) (fun e1 => ?_)]
      · exact hm
      · rcases ho.2 with ⟨rfl, _, _⟩ | ⟨g, cap, cur, rfl, rfl, _⟩
        · simp [Value.ownBlock] at e1
        · simp only [Value.ownBlock, Option.some.injEq] at e1
          have := hi.good.sep (g, .cells cur e (0, 0)) (by simp)
          rw [← e1] at this
          rw [this] at hb; cases hb
    have hframe : ∀ b, b < w.heap.size → (∀ q ∈ ob ++ R, q.1 ≠ b) → w'.heap[b]? = w.heap[b]? := fun b hb hn => hg.block b hb fun e1 => by
      rcases ho.2 with ⟨rfl, _, _⟩ | ⟨g, cap, cur, rfl, rfl, _⟩
      · simp [Value.ownBlock] at e1
      · simp only [Value.ownBlock, Option.some.injEq] at e1
        exact hn (g, .cells cur e (0, 0)) (by simp) e1.symm
    have build : ∀ ob', OwnS e sz v' (n + m) (xs ++ news) ob' → (∀ q ∈ ob', w'.heap[q.1]? = some q.2 ∧ (v.ownBlock = some q.1 ∨ w.heap.size ≤ q.1)) → ob'.Pairwise (fun p q => p.1 ≠ q.1) → ∃ v w_1 h' M', (execOp a.eval ⟨some d, .call { callee := .builtin .append, args := #[s, x], argTypes := #[t, t] }, ty, pos, aft, none⟩).run P w = .ok (.value v) w_1 ∧ Inv E w_1 h' M' ∧ SL P nn E ops Q rest ((d, v) :: l) h' M' := by
      intro ob' ho' hob' hpw
      have hnotR : ∀ q ∈ ob', ∀ r ∈ R, q.1 ≠ r.1 := fun q hq r hr e1 => by
        rcases (hob' q hq).2 with h2 | h2
        · rcases ho.2 with ⟨rfl, _, _⟩ | ⟨g, cap, cur, rfl, rfl, _⟩
          · simp [Value.ownBlock] at h2
          · simp only [Value.ownBlock, Option.some.injEq] at h2
            exact (List.pairwise_append.1 hi.good.dis).2.2 (g, .cells cur e (0, 0)) (by simp) r hr (by simp only []; omega)
        · have := lt_of_some (hi.good.mem r (List.mem_append_right _ hr)); omega
      refine ⟨v', w', h, ob' ++ R, hexec, hi.next ⟨hsat, fun q hq => ?_, fun q hq => ?_, List.pairwise_append.2 ⟨hpw, (List.pairwise_append.1 hi.good.dis).2.1, hnotR⟩⟩ ⟨hg.os, hg.tape, hg.output, hg.size, GH.le.refl _, hframe, fun _ _ x => .inl x, fun q hq => ?_⟩, k v' ob' ho'⟩
      · rcases List.mem_append.1 hq with hq | hq
        · exact (hob' q hq).1
        · exact hRk q hq
      · rcases List.mem_append.1 hq with hq | hq
        · rcases (hob' q hq).2 with h2 | h2
          · rcases ho.2 with ⟨rfl, _, _⟩ | ⟨g, cap, cur, rfl, rfl, _⟩
            · simp [Value.ownBlock] at h2
            · simp only [Value.ownBlock, Option.some.injEq] at h2
              rw [← h2]; exact hi.good.sep (g, .cells cur e (0, 0)) (by simp)
          · cases hx : h q.1 with
            | none => rfl
            | some o => have := lt_of_some (hi.good.sat _ _ hx); omega
        · exact hi.good.sep q (List.mem_append_right _ hq)
      · rcases List.mem_append.1 hq with hq | hq
        · rcases (hob' q hq).2 with h2 | h2
          · rcases ho.2 with ⟨rfl, _, _⟩ | ⟨g, cap, cur, rfl, rfl, _⟩
            · simp [Value.ownBlock] at h2
            · simp only [Value.ownBlock, Option.some.injEq] at h2
              exact .inl ⟨(g, .cells cur e (0, 0)), by simp, h2⟩
          · exact .inr h2
        · exact .inl ⟨q, List.mem_append_right _ hq, rfl⟩
    rcases hown'.2 with ⟨hv', hn'⟩ | ⟨g', cap', cur', hv', _, hg', h3, h4, h5, h6⟩
    · exact build [] ⟨hown'.1, .inl ⟨hv', hn', rfl⟩⟩ (by simp) List.Pairwise.nil
    · refine build [(g', .cells cur' e (0, 0))] ⟨hown'.1, .inr ⟨g', cap', cur', hv', rfl, h3, h4, h5, h6⟩⟩ (fun q hq => ?_) (by simp)
      simp at hq
      subst hq
      refine ⟨hg', ?_⟩
      rw [hv'] at hat
      simp only [Value.ownBlock, Option.some.injEq] at hat
      rcases hat with h7 | h7 | h7
      · exact .inl h7.symm
      · exact .inr (by simp only []; omega)
      · cases h7
  cases A with
  | none =>
    have hnews : news = [] := by
      refine Classical.byContradiction fun hne => ?_
      obtain ⟨b, off, ar, e', fr, hA, _⟩ := hr hne
      cases hA
    subst hnews
    have hm : m = 0 := by
      rcases Nat.eq_zero_or_pos m with h0 | h0
      · exact h0
      · have : 0 < m * sz := Nat.mul_pos h0 hszp
        simp at hl; omega
    subst hm
    have hrun : (Builtin.append_ #[t, t] ty #[v, .slice none 0 c]).run P w = .ok v w := by
      rcases hown.2 with ⟨rfl, rfl⟩ | ⟨g, cap, cur, rfl, _, _, hnc, _⟩
      · simp [Builtin.append_, run_underlying (TI.und (P := P) (t := t)), sizeOf, typeInfo, hinf, Builtin.lenOf, Builtin.firstCells]
      · simp [Builtin.append_, run_underlying (TI.und (P := P) (t := t)), sizeOf, typeInfo, hinf, Builtin.lenOf, Builtin.firstCells, hnc, storeCells]
    exact fin v w hrun (by simpa using hown) ⟨rfl, rfl, rfl, Nat.le_refl _, fun _ _ _ => rfl⟩ (.inl rfl)
  | some ad =>
    have hcells : ∀ j u, news[j]? = some u → w.cell? (ad.add j) = some u := by
      intro j u hj
      obtain ⟨b, off, ar, e', fr, hA, hb, hat⟩ := hr (fun e1 => by rw [e1] at hj; simp at hj)
      injection hA with hA
      subst hA
      rw [Addr.add_lit']
      exact cell_known hi.good hb (hat j u hj)
    obtain ⟨v', w', hrun, hown', hg, _, hat⟩ := run_append_own_at (P := P) w 0 t ty e i z sz i.bytes (TI.und (P := P) (t := t)) hinf hi3 hi4 rfl hzz hszp v n xs hown ad m c news hl hcells h1 (by unfold maxLen; omega) hbytes (Nat.zero_le _)
    exact fin v' w' hrun hown' hg (hat.imp id .inl)

/-! ### rounds one by one -/
def RS (P : Program) (n : Nat) (E : Env) (c : Code) (Q : Exit → Act → World → Prop) (k : Nat) (l : Fr) (h : GH) (M : Blks) : Prop := ∀ a w, Has n a l → Inv E w h M → Code.rounds P c Q k a w
theorem St.loopN {c : Code} (k : Nat) (r : RS P nn E c Q k l h M) : St P nn E (.loop c) Q l h M := fun a w ha hi => wp_loop_rounds k (r a w ha hi)
theorem RS.step {c : Code} {k : Nat} (r : St P nn E c (Exit.then (Code.rounds P c Q k) Q) l h M) : RS P nn E c Q (k + 1) l h M := fun a w ha hi => r a w ha hi
theorem Qs.then_rounds {c : Code} {k : Nat} {Q' : Exit → Act → World → Prop} (r : RS P nn E c Q k l h M) : Qs nn E (Exit.then (Code.rounds P c Q k) Q') .normal l h M := fun a w ha hi => r a w ha hi

/-! ### ranges over strings -/
theorem decode_width (s : ByteArray) (i : Nat) : 1 ≤ (Utf8.decode s i).2 := by
  unfold Utf8.decode
  simp only []
  repeat' split
  all_goals simp
def rn : Nat → ByteArray → Nat → List Int
  | 0, _, _ => []
  | f + 1, s, p => if p < s.size then ((Utf8.decode s p).1 : Int) :: rn f s (p + (Utf8.decode s p).2) else []
theorem rn_more (s : ByteArray) : ∀ (f p : Nat), s.size ≤ p + f → rn (f + 1) s p = rn f s p := by
  intro f
  induction f with
  | zero => intro p hp; simp only [rn]; rw [if_neg (by omega)]
  | succ f ih =>
    intro p hp
    have hw := decode_width s p
    rw [rn]
    conv => rhs; rw [rn]
    by_cases e : p < s.size
    · rw [if_pos e, if_pos e, ih _ (by omega)]
    · rw [if_neg e, if_neg e]
/-- The runes of a text, from a place on. -/
def runesAt (s : ByteArray) (p : Nat) : List Int := rn (s.size - p) s p
def runesOf (s : ByteArray) : List Int := runesAt s 0
theorem runesAt_end {s : ByteArray} {p : Nat} (h : ¬ p < s.size) : runesAt s p = [] := by
  unfold runesAt; rw [show s.size - p = 0 by omega]; rfl
theorem rn_add (s : ByteArray) : ∀ (k f p : Nat), s.size ≤ p + f → rn (f + k) s p = rn f s p := by
  intro k
  induction k with
  | zero => intros; rfl
  | succ k ih => intro f p h; rw [← Nat.add_assoc, rn_more s (f + k) p (by omega), ih f p h]
theorem runesAt_step {s : ByteArray} {p : Nat} (h : p < s.size) : runesAt s p = ((Utf8.decode s p).1 : Int) :: runesAt s (p + (Utf8.decode s p).2) := by
  unfold runesAt
  have hw := decode_width s p
  obtain ⟨f, hf⟩ : ∃ f, s.size - p = f + 1 := ⟨s.size - p - 1, by omega⟩
  rw [hf, rn, if_pos h]
  congr 1
  have := rn_add s (f - (s.size - (p + (Utf8.decode s p).2))) (s.size - (p + (Utf8.decode s p).2)) (p + (Utf8.decode s p).2) (by omega)
  rw [← this]
  congr 1
  omega
theorem SL.range {d : Nat} {t : TypeId} {x : Operand} {s : ByteArray} {s1 : Nat} {z1 : Value} {a1 : Bool} [TI P t .string s1 z1 a1] (hx : lko l x = some (.string s)) (hd : Nat.blt d nn = true)
    (k : ∀ b, SL P nn E ops Q rest ((d, .pointer (some ⟨b, 0, none⟩)) :: l) h ((b, .stringIter s 0) :: M)) : SL P nn E ops Q (⟨some d, .range t x, ty, pos, aft, none⟩ :: rest) l h M :=
  SL.e hd fun a w ha hi => ⟨_, w.alloc (.stringIter s 0), h, _, by
    simp only [execOp, Instr.range, ha.eval hx, Sem.run_bind, run_underlying (TI.und (P := P) (t := t)), Result.andThen_ok, Sem.run_pure]; rfl, hi.next (hi.good.new _) (Step.new _), k _⟩
theorem run_getObj_iter {w : World} {b p : Nat} {s : ByteArray} (hb : w.heap[b]? = some (.stringIter s p)) : (getObj b).run P w = .ok (.stringIter s p) w := by
  simp [getObj, Sem.run, hb]
theorem SL.nextS {d : Nat} {x : Operand} {s : ByteArray} {b p : Nat} {M' : Blks} (i : Nat) (hx : lko l x = some (.pointer (some ⟨b, 0, none⟩))) (hM : nth? M i = some (b, .stringIter s p)) (hlt : p < s.size) (hup : updM M i (b, .stringIter s (p + (Utf8.decode s p).2)) = some M') (hd : Nat.blt d nn = true)
    (k : SL P nn E ops Q rest ((d, .tuple #[.bool true, .int .i64 p, .int .i32 (Utf8.decode s p).1]) :: l) h M') : SL P nn E ops Q (⟨some d, .next x true, ty, pos, aft, none⟩ :: rest) l h M :=
  SL.e hd fun a w ha hi => by
    obtain ⟨A, B, rfl, rfl⟩ := updM_mem hM hup
    have hb := hi.good.mem (b, .stringIter s p) (by simp)
    have hlb := lt_of_some hb
    have hset : ∀ o : Obj, ({ w with heap := w.heap.setIfInBounds b o } : World).heap[b]? = some o := fun o => by
      show (w.heap.setIfInBounds b o)[b]? = some o
      rw [Array.getElem?_setIfInBounds, if_pos rfl, if_pos hlb]
    have hoth : ∀ (o : Obj) (x : Nat), x ≠ b → ({ w with heap := w.heap.setIfInBounds b o } : World).heap[x]? = w.heap[x]? := fun o x hx => by
      show (w.heap.setIfInBounds b o)[x]? = w.heap[x]?
      rw [Array.getElem?_setIfInBounds, if_neg (fun e => hx e.symm)]
    refine ⟨_, { w with heap := w.heap.setIfInBounds b (.stringIter s (p + (Utf8.decode s p).2)) }, h, _, ?_, hi.next (Good.upd hi.good (hset _) (hoth _)) (Step.upd hi.good rfl rfl rfl (by simp) (hoth _)), k⟩
    have hsetrun : ∀ o, (setObj b o).run P w = .ok () { w with heap := w.heap.setIfInBounds b o } := fun o => by simp [setObj, Sem.run, hb]
    simp only [execOp, Instr.next, ha.eval hx, Sem.run_bind, run_getObj_iter hb, Result.andThen_ok, hlt, if_true, hsetrun, Sem.run_pure, goInt]
theorem SL.nextE {d : Nat} {x : Operand} {s : ByteArray} {b p : Nat} (i : Nat) (hx : lko l x = some (.pointer (some ⟨b, 0, none⟩))) (hM : nth? M i = some (b, .stringIter s p)) (hlt : ¬ p < s.size) (hd : Nat.blt d nn = true)
    (k : SL P nn E ops Q rest ((d, .tuple #[.bool false]) :: l) h M) : SL P nn E ops Q (⟨some d, .next x true, ty, pos, aft, none⟩ :: rest) l h M :=
  SL.e hd fun a w ha hi => by
    have hb := hi.good.mem _ (nth_mem hM)
    refine ⟨_, w, h, M, ?_, hi, k⟩
    simp only [execOp, Instr.next, ha.eval hx, Sem.run_bind, run_getObj_iter hb, Result.andThen_ok, hlt, if_false, Sem.run_pure]

theorem SL.callPT {d j dj : Nat} {want : Bool} {f : Nat} [CF P f] {args : List Operand} {ats : Array TypeId} {vs : List Value} {post : Value → GH → Prop} (hj : (ops[j]?).bind (·.dst) = some dj) (hb : lk l dj = some (.bool want)) (hx : lks l args = some vs) (c : FnP P h f vs.toArray post) (hd : Nat.blt d nn = true)
    (k : ∀ v h', GH.le h h' → post v h' → SL P nn E ops Q rest ((d, v) :: l) h' M) : SL P nn E ops Q (⟨some d, .call { callee := .value (.func f), args := args.toArray, argTypes := ats }, ty, pos, aft, some (j, want)⟩ :: rest) l h M := fun a w ha hi => by
  refine wpList_step fun K hK => ?_
  rw [wanted_of ha.ev hj hb, beq_self_eq_true, if_pos rfl]
  unfold Oper.wp
  rw [run_call ha.ev hx w, Oper.upon_enter]
  have hg : Good w h ([] ++ M) := hi.good
  refine (c w hg.left).mono ?_
  rintro e w' ⟨u, h', M', rfl, hi', hp, rfl⟩
  exact hK _ _ (k _ h' hi'.step.le hp _ w' (ha.put hd _) (hi.next (Good.app (M := []) hg hi'.good hi'.step) (hi'.step.app M)))
/-! ### entering, under a name each -/
theorem FnV.enter {f : Nat} {fn : Func} {c : Code} {n : Nat} {vs : List Value} {l0 : Fr} {v : Value} (hf : P.funcs[f]? = some fn) (hb : fn.body = some c) (hn : fn.ntmps = n) (hl : argF 0 vs = some l0) (hvn : Nat.ble vs.length n = true)
    (k : ∀ w, Good w h [] → St P n ⟨w, h, []⟩ c (bodyPost P fn (Post ⟨w, h, []⟩ fun u h' M' => u = v ∧ h' = h ∧ M' = [])) l0 h []) : FnV P h f vs.toArray v := Fn.enter hf hb hn hl hvn k
theorem FnP.enter {f : Nat} {fn : Func} {c : Code} {n : Nat} {vs : List Value} {l0 : Fr} {post : Value → GH → Prop} (hf : P.funcs[f]? = some fn) (hb : fn.body = some c) (hn : fn.ntmps = n) (hl : argF 0 vs = some l0) (hvn : Nat.ble vs.length n = true)
    (k : ∀ w, Good w h [] → St P n ⟨w, h, []⟩ c (bodyPost P fn (Post ⟨w, h, []⟩ fun u h' M' => post u h' ∧ M' = [])) l0 h []) : FnP P h f vs.toArray post := Fn.enter hf hb hn hl hvn k

/-! ### function values -/
theorem SL.callFV {d : Nat} {f : Nat} [CF P f] {cl : Operand} {args : List Operand} {ats : Array TypeId} {vs cap : List Value} {v : Value} (hcl : lko l cl = some (.func (.func f) #[] cap.toArray)) (hx : lks l args = some vs) (c : FnV P h f (vs ++ cap).toArray v) (hd : Nat.blt d nn = true)
    (k : SL P nn E ops Q rest ((d, v) :: l) h M) : SL P nn E ops Q (⟨some d, .call { callee := .value cl, args := args.toArray, argTypes := ats }, ty, pos, aft, none⟩ :: rest) l h M := fun a w ha hi => by
  refine wpList_plain rfl fun K hK => ?_
  have he := ha.ev.evals hx
  have hf := ha.ev.eval hcl
  have hrun : (execOp a.eval ⟨some d, .call { callee := .value cl, args := args.toArray, argTypes := ats }, ty, pos, aft, none⟩).run P w = .ok (.enter f (vs ++ cap).toArray) w := by
    have hc := CF.run (P := P) (f := f) ((vs ++ cap).toArray) w
    simp only [execOp, resolve, Deferred.ofValue, hf, List.map_toArray, he, Sem.run_bind, Sem.run_pure, Result.andThen_ok, invoke]
    simpa using hc
  unfold Oper.wp
  rw [hrun, Oper.upon_enter]
  have hg : Good w h ([] ++ M) := hi.good
  refine (c w hg.left).mono ?_
  rintro e w' ⟨u, h', M', rfl, hi', rfl, rfl, rfl⟩
  exact hK _ _ (k _ w' (ha.put hd _) (hi.next (Good.app (M := []) hg hi'.good hi'.step) (hi'.step.app M)))
end
end Go.Proofs.YtfookachkcgdpaaDoor
