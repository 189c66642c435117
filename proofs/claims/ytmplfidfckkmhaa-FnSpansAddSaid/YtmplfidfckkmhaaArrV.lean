/- Arrays of truth values as lists: what the walks of this seat say of a variable that is an array. Conditions: those of each theorem. -/
import Derived.Test.YtmplfidfckkmhaaProg
import Derived.Laws.Rows
import Derived.Laws.Tables
import Derived.ChangeKeysEq
import Derived.Laws.StructEq
import Derived.ArgAppend
import Derived.Below
import Derived.BigQuiet
import Derived.Deep.AppendLies
import Derived.Deep.CutBlock
import Derived.Deep.DeepCutAuto
import Derived.Deep.Draws
import Derived.Deep.LoopGhost
import Derived.Deep.OwnRows
import Derived.Deep.QuietTactic
import Derived.Deep.RegionHeld3
import Derived.KernelRfl
import Derived.Laws.BitsLemmas
import Derived.Laws.BytesArg
import Derived.Laws.IdiomCopy
import Derived.Laws.MakeOwn
import Derived.Laws.OwnMore
import Derived.Laws.Rows
import Derived.Laws.Slices
import Derived.Lib.AppendStr
import Derived.Lib.ConvBytes
import Derived.Maps.AppendAt
import Derived.OrdersHeld
import Derived.OwnWalk
import Derived.RowKit
import Derived.RowKit3
import Derived.Tactics
import Derived.Test.YtmplfidfckkmhaaV
import Derived.WalkKit
import Derived.WideLaws
namespace Go.Proofs.Ytmplfidfckkmhaa.Arr
open Go.RowKit Go.Proofs.YtmplfidfckkmhaaW.PrintWords Go.Proofs.YtmplfidfckkmhaaW.PrintLast Go.Proofs.YtmplfidfckkmhaaW.PrintMore
def bv (x : List Bool) : Array Value := (x.map Value.bool).toArray
def plv (x : List Bool) : Value := .agg (bv x)
theorem bv_size (x : List Bool) : (bv x).size = x.length := by simp [bv]
theorem bv_get (x : List Bool) (i : Nat) (h : i < x.length) : (bv x)[i]? = some (.bool (x.getD i false)) := by
  simp [bv, h]
theorem bv_set (x : List Bool) (i : Nat) (b : Bool) : (bv x).setIfInBounds i (.bool b) = bv (x.set i b) := by
  simp [bv, List.map_set]
theorem bv_zero (n : Nat) : Array.replicate n (Value.bool false) = bv (List.replicate n false) := by
  simp [bv]
theorem plv_cells (x : List Bool) : (plv x).cells = bv x := rfl
theorem bv_one (x : List Bool) : (bv x).all (·.oneCell') = true := by
  simp [bv]
  exact ⟨fun _ => rfl, fun _ => rfl⟩
theorem plv_inj {x y : List Bool} (h : plv x = plv y) : x = y := by
  have h1 : (bv x).toList = (bv y).toList := by
    have : bv x = bv y := by injection h
    rw [this]
  simp only [bv] at h1
  induction x generalizing y with
  | nil => cases y with
    | nil => rfl
    | cons b y => simp at h1
  | cons a x ih => cases y with
    | nil => simp at h1
    | cons b y =>
      simp only [List.map_cons, List.cons.injEq] at h1
      obtain ⟨e1, e2⟩ := h1
      injection e1 with e1
      subst e1
      rw [ih (y := y) (by simp [plv, bv, e2]) (by simp [e2])]
section
variable {P : Program} {ops : Array Oper} {rest : List Oper} {o : Oper} {a : Act} {Q : Exit → Act → World → Prop} {W : World}
/-- A whole array out of its block. -/
theorem arr_load (hgd : o.guard = none) {N p : Tmp} {t : TypeId} (ho : o.op = .load t (.tmp p)) (_hd : o.dst = some N) {g : Nat} {x : List Bool} {n : Nat} {e : TypeId}
    (hp : a.eval (.tmp p) = .pointer (some ⟨g, 0, none⟩)) (hg : W.heap[g]? = some (.cells (bv x) t (0, 0))) (hu : P.underlying t = some (.array n e)) (hi : (P.info? t).map (·.size) = some x.length)
    (h : wpList P ops Q rest (a.put o.dst (plv x)) W) : wpList P ops Q (o :: rest) a W := by
  refine Kd.event_run hgd (v := plv x) (w1 := W) ?_ h
  have hl := run_loadVar_row (P := P) W g t t (bv x) (0, 0) _ hg hu rfl (by rw [bv_size]; exact hi)
  unfold execOp
  rw [ho]
  dsimp only
  rw [hp]
  simp only [Instr.loadAt, Instr.sureAddr, Sem.run_bind, Sem.run_pure, Result.andThen_ok, hl]
  rfl
/-- A whole array into its block. -/
theorem arr_store (hgd : o.guard = none) {p q : Tmp} {t : TypeId} (ho : o.op = .store t (.tmp p) (.tmp q)) (hN : o.dst = none) {g : Nat} {x y : List Bool}
    (hp : a.eval (.tmp p) = .pointer (some ⟨g, 0, none⟩)) (hq : a.eval (.tmp q) = plv y) (hg : W.heap[g]? = some (.cells (bv x) t (0, 0))) (hxy : x.length = y.length) (hi : (P.info? t).map (·.size) = some y.length)
    (h : ∀ w1, w1.heap[g]? = some (.cells (bv y) t (0, 0)) → (∀ base w0, Below base w0 W → base ≤ g → Below base w0 w1) → (∀ k, k ≠ g → w1.heap[k]? = W.heap[k]?) → wpList P ops Q rest a w1) : wpList P ops Q (o :: rest) a W := by
  have hs := run_storeVar_row (P := P) W g t t (bv x) (bv y) hg (by rw [bv_size]; exact hi) (by rw [bv_size, bv_size]; exact hxy) (bv_one y)
  refine wpList_plain hgd fun K hK => ?_
  unfold Oper.wp
  have hrun : (execOp a.eval o).run P W = .ok .skip (W.setRow g (bv y)) := by
    unfold execOp
    rw [ho]
    dsimp only
    rw [hp, hq]
    simp only [Instr.storeAt, Instr.sureAddr, Sem.run_bind, Sem.run_pure, Result.andThen_ok, plv, hs]
  rw [hrun]
  show K (a.put o.dst undef) (W.setRow g (bv y))
  rw [hN]
  refine hK _ _ (h _ (setRow_heap W g _ _ t _ hg) (fun base w0 hb hle => ?_) (fun k hk => setRow_other W g k _ hk))
  exact ⟨by rw [setRow_os]; exact hb.os, by rw [setRow_tape]; exact hb.tape, by rw [setRow_output]; exact hb.output, by rw [setRow_size]; exact hb.size, fun k hk => by rw [setRow_other W g k _ (by omega)]; exact hb.block k hk⟩
/-- An element of an array that is a value. -/
theorem arr_index {t : TypeId} {x : List Bool} {k : IntKind} {i : Nat} {n : Nat} {e : TypeId} {d : TypeDesc} (hu : P.underlying t = some (.array n e)) (he : P.underlying e = some d) (hd2 : (match d with | .struct _ | .array _ _ => true | _ => false) = false)
    (hi : (P.info? e).map (·.size) = some 1) (hx : x.length = n) (h1 : i < n) (W : World) : Sem.run P (Instr.index t (plv x) (.int k (i : Int))) W = .ok (.bool (x.getD i false)) W := by
  cases hz : P.info? e with
  | none => simp [hz] at hi
  | some z =>
    have hs : z.size = 1 := by simpa [hz] using hi
    have hagg : (isAgg e).run P W = .ok false W := by
      unfold isAgg
      rw [Sem.run_bind, run_underlying he W]
      cases d <;> simp_all
    have hg := bv_get x i (by omega)
    have h1' : (i : Int) < (n : Int) := by omega
    simp [Instr.index, asIntOf, Sem.run_bind, run_underlying hu W, plv, h1, sizeOf, typeInfo, hz, hs, part, hagg, hg]
/-- One element of an array into its block. -/
theorem arr_put (hgd : o.guard = none) {p : Tmp} {q : Operand} {t tv : TypeId} (ho : o.op = .store tv (.tmp p) q) (hN : o.dst = none) {g i : Nat} {x : List Bool} {b : Bool}
    (hp : a.eval (.tmp p) = .pointer (some ⟨g, i, none⟩)) (hq : a.eval q = .bool b) (hg : W.heap[g]? = some (.cells (bv x) t (0, 0))) (hix : i < x.length) (hi : (P.info? tv).map (·.size) = some 1)
    (h : ∀ w1, w1.heap[g]? = some (.cells (bv (x.set i b)) t (0, 0)) → (∀ base w0, Below base w0 W → base ≤ g → Below base w0 w1) → (∀ k, k ≠ g → w1.heap[k]? = W.heap[k]?) → wpList P ops Q rest a w1) : wpList P ops Q (o :: rest) a W := by
  have hc : W.cell? ⟨g, i, none⟩ = some (.bool (x.getD i false)) := by rw [cell_of_row W g i (bv x) t (0, 0) hg, bv_get x i hix]
  have hf : W.frozen? ⟨g, i, none⟩ = false := blk_frozen hg i
  refine wpList_plain hgd fun K hK => ?_
  unfold Oper.wp
  have hrun : (execOp a.eval o).run P W = .ok .skip (W.setCell ⟨g, i, none⟩ (.bool b)) := by
    unfold execOp
    rw [ho]
    dsimp only
    rw [hp, hq]
    cases hz : P.info? tv with
    | none => simp [hz] at hi
    | some z =>
      have hs : z.size = 1 := by simpa [hz] using hi
      simp [go_sem, Instr.storeAt, Instr.sureAddr, storeVar, storeCells, sizeOf, typeInfo, hz, hs, Value.cells, hc, hf]
  rw [hrun]
  show K (a.put o.dst undef) (W.setCell ⟨g, i, none⟩ (.bool b))
  rw [hN]
  refine hK _ _ (h _ (blk_put hg i _ (bv_set x i b)) (fun base w0 hb hle => hb.setCell hle _) (fun k hk => Below.heap_setCell W _ _ k hk))
end
section
variable {P : Program}
theorem arr_items (d : Nat) {e : TypeId} (he : P.underlying e = some .bool) (x y : List Bool) (w : World) : ∀ (is : List Nat), (∀ i ∈ is, i < x.length ∧ i < y.length) →
    (Op.eqItems (d + 1) e 1 (bv x) (bv y) is).run P w = .ok (is.all fun i => x.getD i false == y.getD i false) w
  | [], _ => by simp [Op.eqItems]
  | i :: is, h => by
    have hagg : (isAgg e).run P w = .ok false w := by
      unfold isAgg
      rw [Sem.run_bind, run_underlying he w]
      rfl
    have hx := bv_get x i (h i (by simp)).1
    have hy := bv_get y i (h i (by simp)).2
    have ih := arr_items d he x y w is (fun j hj => h j (by simp [hj]))
    have hc : (Op.equalIn (d + 1) e (.bool (x.getD i false)) (.bool (y.getD i false))).run P w = .ok (x.getD i false == y.getD i false) w := by
      simp only [Op.equalIn, Sem.run_bind, run_underlying he w, Result.andThen_ok]
      rfl
    simp only [Op.eqItems, Sem.run_bind, part, hagg, Nat.mul_one, hx, hy, Result.andThen_ok, Bool.false_eq_true, if_false, Sem.run_pure, hc, List.all_cons]
    cases hq : (x.getD i false == y.getD i false) with
    | true => simpa using ih
    | false => simp
theorem all_beq (x y : List Bool) (n : Nat) (hx : x.length = n) (hy : y.length = n) : ((List.range n).all fun i => x.getD i false == y.getD i false) = (x == y) := by
  rw [Bool.eq_iff_iff]
  simp only [List.all_eq_true, List.mem_range, beq_iff_eq]
  constructor
  · intro h
    apply List.ext_getElem (by omega)
    intro i h1 h2
    have := h i (by omega)
    simpa [h1, h2] using this
  · rintro rfl i _
    rfl
theorem arr_equal {t e : TypeId} {n : Nat} (hu : P.underlying t = some (.array n e)) (he : P.underlying e = some .bool) (hc : P.cellsOf e = 1) (x y : List Bool) (hx : x.length = n) (hy : y.length = n) (w : World) :
    Sem.run P (Op.equal t (plv x) (plv y)) w = .ok (x == y) w := by
  obtain ⟨i, hi⟩ := info_of_underlying he
  have h := run_equalIn_array (P := P) w 9999 (bv x) (bv y) hu hi
  rw [hc, arr_items 9998 he x y w (List.range n) (fun i hi => by rw [List.mem_range] at hi; omega), all_beq x y n hx hy] at h
  exact h
end
/-- The places' own type: 48 truth values. -/
def Pl : Type := { x : List Bool // x.length = 48 }
def plw (x : Pl) : Value := plv x.1
theorem plw_inj {x y : Pl} (h : plw x = plw y) : x = y := Subtype.ext (plv_inj h)
section
variable {P : Program}
theorem plw_guard {op : BinOp} {t : TypeId} {x y : Operand} (hm : P.eqGuardType P.depth t = false) (a b : Pl) (w : World) : Sem.run P (eqGuard op t x y (plw a) (plw b)) w = .ok () w :=
  run_eqGuard_agg w op t x y _ _ hm
theorem plw_eql {t e : TypeId} (hu : P.underlying t = some (.array 48 e)) (he : P.underlying e = some .bool) (hc : P.cellsOf e = 1) (a b : Pl) (w : World) : Sem.run P (binOp .eql t (plw a) (plw b)) w = .ok (.bool (a.1 == b.1)) w := by
  have h := arr_equal (P := P) hu he hc a.1 b.1 a.2 b.2 w
  unfold plw plv at *
  rw [run_eql_struct]
  have h' : (Op.equalIn 10000 t (.agg (bv a.1)) (.agg (bv b.1))).run P w = .ok (a.1 == b.1) w := h
  rw [h']
  rfl
end
theorem plw_guardT {x y : Operand} (a b : Pl) (w : World) : Sem.run Try.prog (eqGuard .eql 46 x y (plw a) (plw b)) w = .ok () w := plw_guard (by kernel_rfl) a b w
theorem plw_eqlT (a b : Pl) (w : World) : Sem.run Try.prog (binOp .eql 46 (plw a) (plw b)) w = .ok (.bool (a.1 == b.1)) w := plw_eql Try.underlying46 Try.underlying4 (by kernel_rfl) a b w
end Go.Proofs.Ytmplfidfckkmhaa.Arr
