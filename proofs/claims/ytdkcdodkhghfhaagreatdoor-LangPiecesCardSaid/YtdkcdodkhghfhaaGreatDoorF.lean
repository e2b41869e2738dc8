/- The map of the forms of lines: what the function lang.forms returns. -/
import Derived.Test.YtdkcdodkhghfhaaGreatDoorProg
import Derived.Test.YtdkcdodkhghfhaaGreatDoorSpec
import Derived.WalkKit
import Derived.Maps.Own
import Derived.Maps.OwnSet
import Derived.Maps.Views
import Derived.Maps.StringElems
import Derived.Maps.AppendAt
import Derived.Outline
import Derived.Lib.Hide
namespace Go.Proofs.YtdkcdodkhghfhaaGreatDoor
open Go.RowKit Go.Maps

/-- An entry of a map literal, at the operation. -/
theorem wpList_insert_own {H : Type} {P : Program} (w : World) {ops : Array Oper} {rest : List Oper} {o : Oper} {a : Act} {Q : Exit → Act → World → Prop}
    (hg : o.guard = none) (m x v : Operand) (t : TypeId) (hop : o.op = Op.insert t m x v)
    (k e : TypeId) (K : Keyed P k) (ht : P.underlying t = some (.map k e)) (R : Value → Option (DataW H × List MemPlace)) (b n : Nat) (D : DataW H)
    (hm : a.eval m = .map (some b)) (hown : w.ownsMap P k R b n D) (hn : n < maxLen) (key val : Value) (kl : Lit) (hx : a.eval x = key) (hv : a.eval v = val) (hkey : keyOf P k key = some kl)
    (d : DataW H) (ps : List MemPlace) (hval : R val = some (d, ps))
    (hK : ∀ w', w'.ownsMap P k R b (n + 1) (D.put kl d) → w.grownBy w' (some b) → wpList P ops Q rest (a.put o.dst undef) w') :
    wpList P ops Q (o :: rest) a w := by
  refine wpList_plain hg fun K' hK' => ?_
  obtain ⟨w', hrun, r1, r2⟩ := hown.update K ht hn hkey hval
  unfold Oper.wp
  simp [execOp, hop, hm, hx, hv, hrun, Result.andThen]
  exact hK' _ _ (hK w' r1 r2)

/-- The entries of a literal with whole numbers as keys and strings as elements, one after the other. -/
def putAll (L : List (Int × Str)) (D : DataW Unit) : DataW Unit := L.foldl (fun D p => D.put (.int .i64 p.1) (.lit (.string p.2))) D
theorem wpList_inserts {P : Program} {ops : Array Oper} {rest : List Oper} {Q : Exit → Act → World → Prop} (t k e : TypeId) (m : Operand) (b : Nat)
    (hk : P.underlying k = some (.int .i64)) (he : P.underlying e = some .string) (ht : P.underlying t = some (.map k e)) :
    ∀ (L : List (Int × Str)) (os : List Oper) (a : Act) (w : World) (n : Nat) (D : DataW Unit)
      (_ : os.map (fun o => (o.op, o.guard, o.dst)) = L.map (fun p => (Op.insert t m (.const (.int .i64 p.1)) (.const (.string ⟨p.2.toArray⟩)), none, none)))
      (_ : ∀ p ∈ L, (Lit.int .i64 p.1).wf = true ∧ p.2.length ≤ maxLen)
      (_ : a.eval m = .map (some b)) (_ : w.ownsMap P k (plainElem P e) b n D) (_ : n + L.length < maxLen)
      (_ : ∀ w', w'.ownsMap P k (plainElem P e) b (n + L.length) (putAll L D) → w.grownBy w' (some b) → wpList P ops Q rest a w'),
      wpList P ops Q (os ++ rest) a w := by
  intro L
  induction L with
  | nil =>
    intro os a w n D hos _ hm hown hn hK
    cases os with
    | nil => exact hK w hown ⟨rfl, rfl, rfl, Nat.le_refl _, fun _ _ _ => rfl⟩
    | cons o os => simp at hos
  | cons p L ih =>
    intro os a w n D hos hL hm hown hn hK
    cases os with
    | nil => simp at hos
    | cons o os =>
      simp only [List.map_cons, List.cons.injEq, Prod.mk.injEq] at hos
      obtain ⟨⟨h1, h2, h3⟩, hos⟩ := hos
      have hp := hL p (by simp)
      simp only [List.length_cons] at hn
      refine wpList_insert_own (H := Unit) w h2 m _ _ t h1 k e (int_keyed hk) ht (plainElem P e) b n D hm hown (by omega) _ _ (.int .i64 p.1) rfl rfl (keyOf_int_mk hk hp.1) (.lit (.string p.2)) [] ?_ ?_
      · have : (⟨p.2.toArray⟩ : ByteArray).size ≤ maxLen := hp.2
        simp [plainElem, he, Act.eval, this]
      · intro w1 hown1 hg1
        have ha : a.put o.dst undef = a := by rw [h3]; rfl
        rw [ha]
        refine ih os a w1 (n + 1) _ hos (fun q hq => hL q (by simp [hq])) hm hown1 (by omega) ?_
        intro w2 hown2 hg2
        refine hK w2 ?_ (World.grownBy.trans hg1 hg2)
        simp only [List.length_cons]
        rw [show n + (L.length + 1) = n + 1 + L.length from by omega]
        exact hown2

theorem wpList_inserts' {P : Program} {ops : Array Oper} {Q : Exit → Act → World → Prop} (t k e : TypeId) (m : Operand) (b : Nat)
    (hk : P.underlying k = some (.int .i64)) (he : P.underlying e = some .string) (ht : P.underlying t = some (.map k e))
    (L : List (Int × Str)) (l : List Oper) (a : Act) (w : World) (n : Nat) (D : DataW Unit)
      (h1 : (l.take L.length).map (fun o => (o.op, o.guard, o.dst)) = L.map (fun p => (Op.insert t m (.const (.int .i64 p.1)) (.const (.string ⟨p.2.toArray⟩)), none, none)))
      (h2 : ∀ p ∈ L, (Lit.int .i64 p.1).wf = true ∧ p.2.length ≤ maxLen)
      (h3 : a.eval m = .map (some b)) (h4 : w.ownsMap P k (plainElem P e) b n D) (h5 : n + L.length < maxLen)
      (h6 : ∀ w', w'.ownsMap P k (plainElem P e) b (n + L.length) (putAll L D) → w.grownBy w' (some b) → wpList P ops Q (l.drop L.length) a w') :
      wpList P ops Q l a w := by
  have := wpList_inserts (ops := ops) (rest := l.drop L.length) (Q := Q) t k e m b hk he ht L (l.take L.length) a w n D h1 h2 h3 h4 h5 h6
  rwa [List.take_append_drop] at this

def formsD : DataW Unit := putAll formsL (.map [])
set_option maxHeartbeats 1000000 in
set_option maxRecDepth 100000 in
theorem forms_calls (w : World) :
    Calls Tryz.prog 53 #[] w fun e w' => e = .returned (.map (some w.heap.size)) ∧ w'.ownsMap Tryz.prog 3 (plainElem Tryz.prog 9) w.heap.size 42 formsD ∧ Below w.heap.size w w' := by
  have hmm := @run_makeMap Tryz.prog
  go_enter Tryz.func53, Tryz.ntmps53
  go_wp2_with (refine wpList_inserts' 103 3 9 (.tmp 1) w.heap.size Tryz.underlying3 Tryz.underlying9 Tryz.underlying103 formsL _ _ _ 0 (.map []) rfl ?h2 ?h3 ?h4 ?h5 ?_)
  case h2 =>
    intro p hp
    have : (Lit.int IntKind.i64 p.1).wf = true ∧ p.2.length ≤ 32 := by
      have h : formsL.all (fun p => (Lit.int IntKind.i64 p.1).wf && decide (p.2.length ≤ 32)) = true := by decide +kernel
      have := List.all_eq_true.1 h p hp
      simpa using this
    exact ⟨this.1, Nat.le_trans this.2 (by unfold maxLen; omega)⟩
  case h3 => rfl
  case h4 => exact World.ownsMap_made _ _ _ _
  case h5 => show 0 + 42 < maxLen; unfold maxLen; omega
  intro w1 hown hg
  have HO := Lib.hid hown
  clear hown
  have hx : formsL.length = 42 := rfl
  rw [hx]
  clear hx
  have hb : Below w.heap.size w w1 := ((Below.refl _ _).alloc (Nat.le_refl _) _).grown hg (by simp) (fun k hk => by simp at hk; omega)
  clear hg
  simp only [List.drop_succ_cons, List.drop_zero]
  go_wp2
  go_ret
  exact ⟨rfl, HO.out, hb⟩

/-- The form of an operator. -/
def formS (op : Int) : Option Str := (formsL.find? (fun p => p.1 == op)).map (·.2)
theorem formsL_nodup : (formsL.map (·.1)).Nodup := by decide +kernel

theorem putAll_isMap : ∀ (L : List (Int × Str)) (D : DataW Unit), IsMap D → IsMap (putAll L D)
  | [], _, h => h
  | p :: L, D, h => putAll_isMap L _ (by obtain ⟨es, rfl⟩ := h; exact ⟨_, rfl⟩)
theorem putAll_other (k : Int) (zd : DataW Unit) : ∀ (L : List (Int × Str)) (D : DataW Unit), (∀ p ∈ L, p.1 ≠ k) → (putAll L D).atKey (.int .i64 k) zd = D.atKey (.int .i64 k) zd ∧ Maps.has (putAll L D) (.int .i64 k) = Maps.has D (.int .i64 k)
  | [], _, _ => ⟨rfl, rfl⟩
  | p :: L, D, h => by
    have ih := putAll_other k zd L (D.put (.int .i64 p.1) (.lit (.string p.2))) (fun q hq => h q (by simp [hq]))
    have hne : (Lit.int .i64 k) ≠ .int .i64 p.1 := fun e => h p (by simp) (by injection e with _ e; exact e.symm)
    rw [atKey_put_other hne, has_put_other hne] at ih
    exact ih
theorem putAll_here (zd : DataW Unit) : ∀ (L : List (Int × Str)) (D : DataW Unit), IsMap D → (L.map (·.1)).Nodup → ∀ p ∈ L, (putAll L D).atKey (.int .i64 p.1) zd = .lit (.string p.2) ∧ Maps.has (putAll L D) (.int .i64 p.1) = true
  | [], _, _, _ => fun p hp => by simp at hp
  | q :: L, D, hD, hnd => fun p hp => by
    simp only [List.map_cons, List.nodup_cons] at hnd
    have hM : IsMap (D.put (.int .i64 q.1) (.lit (.string q.2))) := putAll_isMap [q] D hD
    rcases List.mem_cons.1 hp with rfl | hp
    · have h1 := putAll_other p.1 zd L (D.put (.int .i64 p.1) (.lit (.string p.2))) (fun x hx e => hnd.1 (List.mem_map.2 ⟨x, hx, e⟩))
      show (putAll L _).atKey _ _ = _ ∧ _
      rw [h1.1]
      refine ⟨atKey_put_same hD (by trivial) _ _, ?_⟩
      exact h1.2.trans (has_put_same hD (by trivial) _)
    · exact putAll_here zd L _ hM hnd.2 p hp
theorem formS_some {op : Int} {f : Str} (h : formS op = some f) : (op, f) ∈ formsL := by
  unfold formS at h
  cases h1 : formsL.find? (fun p => p.1 == op) with
  | none => simp [h1] at h
  | some p =>
    rw [h1] at h
    simp at h
    have := List.mem_of_find?_eq_some h1
    have h2 := List.find?_some h1
    simp at h2
    rw [← h, ← h2]; exact this
theorem formS_none {op : Int} (h : formS op = none) : ∀ p ∈ formsL, p.1 ≠ op := by
  unfold formS at h
  simp at h
  intro p hp e
  exact h p.1 p.2 hp e
theorem formS_mem {op : Int} {f : Str} (h : (op, f) ∈ formsL) : formS op = some f := by
  have hall : formsL.all (fun p => decide (formS p.1 = some p.2)) = true := by decide +kernel
  have := List.all_eq_true.1 hall _ h
  simpa using this
theorem formsD_at (op : Int) (zd : DataW Unit) : formsD.atKey (.int .i64 op) zd = (match formS op with | some f => .lit (.string f) | none => zd) ∧ Maps.has formsD (.int .i64 op) = (formS op).isSome := by
  cases h : formS op with
  | none =>
    have := putAll_other op zd formsL (.map []) (formS_none h)
    exact this
  | some f => exact putAll_here zd formsL (.map []) ⟨_, rfl⟩ formsL_nodup _ (formS_some h)
end Go.Proofs.YtdkcdodkhghfhaaGreatDoor
