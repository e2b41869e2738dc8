import Derived.Test.YtdkcdodkhghfhaaGreatDoorN
/- Programs as data, how they lie in memory, and what holds of a reader between two lines. -/
namespace Go.Proofs.YtdkcdodkhghfhaaGreatDoor
open Go.RowKit Go.Proofs.YtdkcdodkhghfhaaGreatDoorW.PrintWords

structure Cls where
  nm : Str
  fields : List Str
  methods : List (Str × Str)
  deriving DecidableEq
structure Fn where
  nm : Str
  params : List Str
  lines : List Ln
  deriving DecidableEq
structure Prg where
  classes : List Cls
  funcs : List Fn
  deriving DecidableEq
/-- What a reader has read. -/
structure St where
  p : Prg
  inside : Bool
  cls : Bool

/-- Where a slice begins, and its capacity. -/
structure Sl where
  A : Option Addr
  cap : Nat
/-- A class, its fields' slice and its methods' slice; a function with its parameters' and its lines'; a line with its arguments'. -/
abbrev ClsX := Cls × Sl × Sl
abbrev FnX := Fn × Sl × Sl
abbrev LnX := Ln × Sl
def mCells (l : List (Str × Str)) : List Value := l.flatMap fun m => [sv m.1, sv m.2]
def cCells1 (x : ClsX) : List Value := [sv x.1.nm, .slice x.2.1.A x.1.fields.length x.2.1.cap, .slice x.2.2.A x.1.methods.length x.2.2.cap]
def cCells (l : List ClsX) : List Value := l.flatMap cCells1
def fCells1 (x : FnX) : List Value := [sv x.1.nm, .slice x.2.1.A x.1.params.length x.2.1.cap, .slice x.2.2.A x.1.lines.length x.2.2.cap]
def fCells (l : List FnX) : List Value := l.flatMap fCells1
def lCells1 (x : LnX) : List Value := (x.1.cells (.slice x.2.A x.1.args.length x.2.cap)).toList
def lCells (l : List LnX) : List Value := l.flatMap lCells1

/-- The cells from A on, in a row of the element type e, are these. -/
def RdB (w : World) (e : Nat) (A : Option Addr) (cells : List Value) : Prop :=
  cells = [] ∨ ∃ g off cs, A = some ⟨g, off, none⟩ ∧ w.heap[g]? = some (.cells cs e (0, 0)) ∧ ∀ j u, cells[j]? = some u → cs[off + j]? = some u
theorem RdB.nil (w : World) (e : Nat) (A : Option Addr) : RdB w e A [] := .inl rfl
/-- What a row reads as holds as long as its block stands. -/
theorem RdB.keep {w w' : World} {e : Nat} {A : Option Addr} {cells : List Value} (h : RdB w e A cells) (hk : ∀ g cs, (∃ off, A = some ⟨g, off, none⟩) → w.heap[g]? = some (.cells cs e (0, 0)) → w'.heap[g]? = w.heap[g]?) : RdB w' e A cells := by
  rcases h with h | ⟨g, off, cs, hA, hg, hc⟩
  · exact .inl h
  · exact .inr ⟨g, off, cs, hA, (hk g cs ⟨off, hA⟩ hg).trans hg, hc⟩
theorem RdB.below {w w' : World} {e : Nat} {A : Option Addr} {cells : List Value} (h : RdB w e A cells) (hb : Below w.heap.size w w') : RdB w' e A cells :=
  h.keep fun g _cs _ hg => hb.block g (sizeB hg)
theorem RdB.grown {w w' : World} {e : Nat} {A : Option Addr} {cells : List Value} {row : Option Nat} (h : RdB w e A cells) (hg : w.grownBy w' row) (hne : ∀ g off, A = some ⟨g, off, none⟩ → some g ≠ row) : RdB w' e A cells :=
  h.keep fun g _cs ⟨off, hA⟩ hgc => hg.block g (sizeB hgc) (hne g off hA)
/-- A write into a row of another type. -/
theorem RdB.set {w : World} {e t : Nat} {A : Option Addr} {cells : List Value} {p : Addr} {u : Value} {cs : Array Value} (h : RdB w e A cells) (hp : w.heap[p.block]? = some (.cells cs t (0, 0))) (hne : e ≠ t) : RdB (w.setCell p u) e A cells :=
  h.keep fun g cs' _ hg => Below.heap_setCell w p u g (fun hgp => by
    subst hgp
    rw [hp] at hg
    injection hg with hg
    injection hg with _ h2
    exact hne h2.symm)
/-- Growth at a row of another type. -/
theorem RdB.grownT {w w' : World} {e t base size n : Nat} {v : Value} {xs : List Value} {A : Option Addr} {cells : List Value} (h : RdB w e A cells) (ho : w.ownsRow base t size v n xs) (hg : w.grownBy w' v.ownBlock) (hne : t ≠ e) : RdB w' e A cells :=
  h.keep fun g _cs _ hgc => hg.block g (sizeB hgc) (own_ne ho hgc hne)
theorem RdB.of_own {w : World} {e base size n cap : Nat} {A : Option Addr} {cells : List Value} (h : w.ownsRow base e size (.slice A n cap) n cells) : RdB w e A cells := by
  rcases h.2 with ⟨h1, h2⟩ | ⟨g, cap', cur, h1, h2, h3, h4, _, h5, h6⟩
  · left
    have := h.1
    subst h2
    simpa using this
  · right
    injection h1 with e1 e2 e3
    refine ⟨g, 0, cur, e1, h3, fun j u hu => ?_⟩
    rw [← h6, List.getElem?_take] at hu
    split at hu
    · rw [Nat.zero_add, ← Array.getElem?_toList]; exact hu
    · cases hu

/-- A class, a function, and a line, as they lie in memory. -/
def ClsOk (w : World) (x : ClsX) : Prop := RdB w 9 x.2.1.A (strs x.1.fields) ∧ RdB w 52 x.2.2.A (mCells x.1.methods)
def LnOk (w : World) (x : LnX) : Prop := RdB w 9 x.2.A (strs x.1.args)
def FnOk (w : World) (x : FnX) : Prop := RdB w 9 x.2.1.A (strs x.1.params) ∧ ∃ zs : List LnX, zs.map (·.1) = x.1.lines ∧ RdB w 40 x.2.2.A (lCells zs) ∧ ∀ z ∈ zs, LnOk w z
/-- They lie at B or behind. -/
def FarA (B : Nat) (A : Option Addr) (cells : List Value) : Prop := cells = [] ∨ ∀ a, A = some a → B ≤ a.block
theorem FarA.of_own {w : World} {B e size n gg cap : Nat} {xs ys : List Value} (h : w.ownsRow B e size (.slice (some ⟨gg, 0, none⟩) n cap) n xs) : FarA B (some ⟨gg, 0, none⟩) ys := .inr fun a ha => by
  injection ha with ha
  subst ha
  exact own_base h gg rfl
theorem FarA.of_own' {w : World} {B e size n cap : Nat} {A : Option Addr} {xs : List Value} (h : w.ownsRow B e size (.slice A n cap) n xs) : FarA B A xs := by
  rcases h.2 with ⟨h1, h2⟩ | ⟨g, cap', cur, h1, h2, h3, h4⟩
  · left
    have := h.1
    subst h2
    simpa using this
  · right
    intro a ha
    injection h1 with e1 e2 e3
    rw [e1] at ha
    injection ha with ha
    subst ha
    exact h2
def ClsOkF (B : Nat) (w : World) (x : ClsX) : Prop := ClsOk w x ∧ FarA B x.2.1.A (strs x.1.fields) ∧ FarA B x.2.2.A (mCells x.1.methods)
def LnOkF (B : Nat) (w : World) (x : LnX) : Prop := LnOk w x ∧ FarA B x.2.A (strs x.1.args)
def FnOkF (B : Nat) (w : World) (x : FnX) : Prop := RdB w 9 x.2.1.A (strs x.1.params) ∧ FarA B x.2.1.A (strs x.1.params) ∧ ∃ zs : List LnX, zs.map (·.1) = x.1.lines ∧ RdB w 40 x.2.2.A (lCells zs) ∧ FarA B x.2.2.A (lCells zs) ∧ ∀ z ∈ zs, LnOkF B w z
theorem FnOkF.ok {B : Nat} {w : World} {x : FnX} (h : FnOkF B w x) : FnOk w x := by
  obtain ⟨h1, _, zs, h2, h3, _, h4⟩ := h
  exact ⟨h1, zs, h2, h3, fun z hz => (h4 z hz).1⟩
def Sl.v (s : Sl) (n : Nat) : Value := .slice s.A n s.cap
/-- The last class can take a method; the last function a line. -/
def LastC (base : Nat) (w : World) (xs : List ClsX) : Prop :=
  ∃ pre x, xs = pre ++ [x] ∧ w.ownsRow base 52 2 (x.2.2.v x.1.methods.length) x.1.methods.length (mCells x.1.methods) ∧ ∀ p ∈ pre, p.1.methods ≠ [] → ∀ g off, p.2.2.A = some ⟨g, off, none⟩ → some g ≠ (x.2.2.v x.1.methods.length).ownBlock
def LastF (base : Nat) (w : World) (ys : List FnX) : Prop :=
  ∃ pre y zs, ys = pre ++ [y] ∧ zs.map (·.1) = y.1.lines ∧ w.ownsRow base 40 9 (y.2.2.v y.1.lines.length) y.1.lines.length (lCells zs) ∧ (∀ z ∈ zs, LnOkF base w z) ∧ ∀ p ∈ pre, p.1.lines ≠ [] → ∀ g off, p.2.2.A = some ⟨g, off, none⟩ → some g ≠ (y.2.2.v y.1.lines.length).ownBlock
/-- What holds of a reader in block r between two lines. -/
structure InvX (base r : Nat) (w : World) (st : St) (xs : List ClsX) (ys : List FnX) (sc sf : Sl) : Prop where
  hr : base ≤ r
  rd : w.heap[r]? = some (.cells #[sc.v xs.length, sf.v ys.length, .bool st.inside, .bool st.cls] 97 (0, 0))
  hx : xs.map (·.1) = st.p.classes
  hy : ys.map (·.1) = st.p.funcs
  oc : w.ownsRow base 50 3 (sc.v xs.length) xs.length (cCells xs)
  of : w.ownsRow base 45 3 (sf.v ys.length) ys.length (fCells ys)
  cok : ∀ x ∈ xs, ClsOkF base w x
  fok : ∀ y ∈ ys, FnOkF base w y
  lc : st.cls = true → LastC base w xs
  lf : st.inside = true → LastF base w ys
def Inv (base r : Nat) (w : World) (st : St) : Prop := ∃ xs ys sc sf, InvX base r w st xs ys sc sf

theorem ClsOk.keep {w w' : World} {x : ClsX} (h : ClsOk w x) (h9 : ∀ A cells, RdB w 9 A cells → RdB w' 9 A cells) (h52 : RdB w 52 x.2.2.A (mCells x.1.methods) → RdB w' 52 x.2.2.A (mCells x.1.methods)) : ClsOk w' x := ⟨h9 _ _ h.1, h52 h.2⟩
theorem LnOk.keep {w w' : World} {x : LnX} (h : LnOk w x) (h9 : ∀ A cells, RdB w 9 A cells → RdB w' 9 A cells) : LnOk w' x := h9 _ _ h
theorem FnOk.keep {w w' : World} {x : FnX} (h : FnOk w x) (h9 : ∀ A cells, RdB w 9 A cells → RdB w' 9 A cells) (h40 : ∀ cells, RdB w 40 x.2.2.A cells → RdB w' 40 x.2.2.A cells) : FnOk w' x := by
  obtain ⟨h1, zs, h2, h3, h4⟩ := h
  exact ⟨h9 _ _ h1, zs, h2, h40 _ h3, fun z hz => (h4 z hz).keep h9⟩
theorem ClsOkF.keep {B : Nat} {w w' : World} {x : ClsX} (h : ClsOkF B w x) (h9 : ∀ A cells, RdB w 9 A cells → RdB w' 9 A cells) (h52 : RdB w 52 x.2.2.A (mCells x.1.methods) → RdB w' 52 x.2.2.A (mCells x.1.methods)) : ClsOkF B w' x := ⟨h.1.keep h9 h52, h.2⟩
theorem LnOkF.keep {B : Nat} {w w' : World} {x : LnX} (h : LnOkF B w x) (h9 : ∀ A cells, RdB w 9 A cells → RdB w' 9 A cells) : LnOkF B w' x := ⟨h.1.keep h9, h.2⟩
theorem FnOkF.keep {B : Nat} {w w' : World} {x : FnX} (h : FnOkF B w x) (h9 : ∀ A cells, RdB w 9 A cells → RdB w' 9 A cells) (h40 : ∀ cells, RdB w 40 x.2.2.A cells → RdB w' 40 x.2.2.A cells) : FnOkF B w' x := by
  obtain ⟨h1, hf, zs, h2, h3, hg, h4⟩ := h
  exact ⟨h9 _ _ h1, hf, zs, h2, h40 _ h3, hg, fun z hz => (h4 z hz).keep h9⟩
/-- The world changes at blocks of the types T alone (and new ones come). -/
def TKeep (T : List Nat) (w w' : World) : Prop := ∀ (g : Nat) (cs : Array Value) (t : Nat), w.heap[g]? = some (Obj.cells cs t (0, 0)) → t ∉ T → w'.heap[g]? = w.heap[g]?
theorem TKeep.refl (T : List Nat) (w : World) : TKeep T w w := fun _ _ _ _ _ => rfl
theorem TKeep.trans {T : List Nat} {a b c : World} (h : TKeep T a b) (k : TKeep T b c) : TKeep T a c := fun g cs t hg ht => (k g cs t ((h g cs t hg ht).trans hg) ht).trans (h g cs t hg ht)
theorem TKeep.below {T : List Nat} {w w' : World} (hb : Below w.heap.size w w') : TKeep T w w' := fun g _ _ hg _ => hb.block g (sizeB hg)
theorem TKeep.set {T : List Nat} {w : World} {p : Addr} {u : Value} {cs : Array Value} {t : Nat} (hp : w.heap[p.block]? = some (.cells cs t (0, 0))) (ht : t ∈ T) : TKeep T w (w.setCell p u) := fun g cs' t' hg ht' => Below.heap_setCell w p u g (fun e => by
  subst e
  rw [hp] at hg
  injection hg with hg
  injection hg with _ h2
  exact ht' (h2 ▸ ht))
theorem TKeep.grown {T : List Nat} {w w' : World} {base t size n : Nat} {v : Value} {xs : List Value} (ho : w.ownsRow base t size v n xs) (hg : w.grownBy w' v.ownBlock) (ht : t ∈ T) : TKeep T w w' := fun g _cs _t' hgc ht' => hg.block g (sizeB hgc) (own_ne ho hgc (fun e => ht' (e ▸ ht)))
theorem TKeep.rd {T : List Nat} {w w' : World} (h : TKeep T w w') {e : Nat} (he : e ∉ T) {A : Option Addr} {cells : List Value} (hr : RdB w e A cells) : RdB w' e A cells := hr.keep fun g cs _ hg => h g cs e hg he
theorem TKeep.own {T : List Nat} {w w' : World} (h : TKeep T w w') {base e size n : Nat} (he : e ∉ T) {v : Value} {xs : List Value} (ho : w.ownsRow base e size v n xs) : w'.ownsRow base e size v n xs := by
  refine ⟨ho.1, ?_⟩
  rcases ho.2 with h1 | ⟨g, cap, cur, h1, h2, h3, h4⟩
  · exact .inl h1
  · exact .inr ⟨g, cap, cur, h1, h2, (h g cur e h3 he).trans h3, h4⟩
theorem LastC.keep {T : List Nat} {base : Nat} {w w' : World} (h : TKeep T w w') (he : 52 ∉ T) {xs : List ClsX} (hl : LastC base w xs) : LastC base w' xs := by
  obtain ⟨pre, x, h1, h2, h3⟩ := hl
  exact ⟨pre, x, h1, h.own he h2, h3⟩
theorem LastF.keep {T : List Nat} {base : Nat} {w w' : World} (h : TKeep T w w') (he : 40 ∉ T) (he9 : 9 ∉ T) {ys : List FnX} (hl : LastF base w ys) : LastF base w' ys := by
  obtain ⟨pre, y, zs, h1, h2, h3, h4, h5⟩ := hl
  exact ⟨pre, y, zs, h1, h2, h.own he h3, fun z hz => (h4 z hz).keep (fun _ _ => h.rd he9), h5⟩
/-- Where nothing of a reader's was written. -/
theorem InvX.keep {base r : Nat} {w w' : World} {st : St} {xs : List ClsX} {ys : List FnX} {sc sf : Sl} (I : InvX base r w st xs ys sc sf) (h : TKeep [] w w') : InvX base r w' st xs ys sc sf where
  hr := I.hr
  rd := (h r _ 97 I.rd (by simp)).trans I.rd
  hx := I.hx
  hy := I.hy
  oc := h.own (by simp) I.oc
  of := h.own (by simp) I.of
  cok := fun x hx => (I.cok x hx).keep (fun _ _ => h.rd (by simp)) (h.rd (by simp))
  fok := fun y hy => (I.fok y hy).keep (fun _ _ => h.rd (by simp)) (fun _ => h.rd (by simp))
  lc := fun hc => (I.lc hc).keep h (by simp)
  lf := fun hc => (I.lf hc).keep h (by simp) (by simp)

theorem cCells_append (a b : List ClsX) : cCells (a ++ b) = cCells a ++ cCells b := by simp [cCells]
theorem fCells_append (a b : List FnX) : fCells (a ++ b) = fCells a ++ fCells b := by simp [fCells]

/-- A class comes. -/
theorem InvX.add_class {base r : Nat} {w w3 : World} {st : St} {xs : List ClsX} {ys : List FnX} {sc sf : Sl} (I : InvX base r w st xs ys sc sf) {nm : Str} {fl : List Str} {sl : Sl} {gg cap : Nat}
    (ho : w3.ownsRow base 50 3 (.slice (some ⟨gg, 0, none⟩) (xs.length + 1) cap) (xs.length + 1) (cCells xs ++ [sv nm, sl.v fl.length, .slice none 0 0])) (hg : w.grownBy w3 (sc.v xs.length).ownBlock) (hfl : RdB w 9 sl.A (strs fl)) (hff : FarA base sl.A (strs fl)) :
    InvX base r ((w3.setCell ⟨r, 0, none⟩ (.slice (some ⟨gg, 0, none⟩) (xs.length + 1) cap)).setCell ⟨r, 3, none⟩ (.bool true)) ⟨⟨st.p.classes ++ [⟨nm, fl, []⟩], st.p.funcs⟩, st.inside, true⟩ (xs ++ [(⟨nm, fl, []⟩, sl, ⟨none, 0⟩)]) ys ⟨some ⟨gg, 0, none⟩, cap⟩ sf := by
  have k3 : TKeep [50] w w3 := TKeep.grown I.oc hg (by simp)
  have r3 := (k3 r _ 97 I.rd (by simp)).trans I.rd
  have k4 : TKeep [97] w3 (w3.setCell ⟨r, 0, none⟩ (.slice (some ⟨gg, 0, none⟩) (xs.length + 1) cap)) := TKeep.set r3 (by simp)
  have r4 := blk_set r3 0 (.slice (some ⟨gg, 0, none⟩) (xs.length + 1) cap)
  have k5 : TKeep [97] (w3.setCell ⟨r, 0, none⟩ (.slice (some ⟨gg, 0, none⟩) (xs.length + 1) cap)) ((w3.setCell ⟨r, 0, none⟩ (.slice (some ⟨gg, 0, none⟩) (xs.length + 1) cap)).setCell ⟨r, 3, none⟩ (.bool true)) := TKeep.set r4 (by simp)
  have r5 := blk_set r4 3 (.bool true)
  have k35 := k4.trans k5
  have kk : TKeep [50, 97] w _ := TKeep.trans (fun g cs t hg ht => k3 g cs t hg (by simp at ht ⊢; exact ht.1)) (fun g cs t hg ht => k35 g cs t hg (by simp at ht ⊢; exact ht.2))
  refine ⟨I.hr, ?_, ?_, I.hy, ?_, kk.own (by simp) I.of, ?_, ?_, ?_, ?_⟩
  · simpa [Sl.v] using r5
  · simp [I.hx]
  · have := k35.own (by simp) ho
    simpa [Sl.v, cCells_append, cCells, cCells1] using this
  · intro x hx
    rcases List.mem_append.1 hx with hx | hx
    · exact (I.cok x hx).keep (fun _ _ => kk.rd (by simp)) (kk.rd (by simp))
    · simp at hx
      subst hx
      exact ⟨⟨kk.rd (by simp) hfl, .inl rfl⟩, hff, .inl rfl⟩
  · exact fun y hy => (I.fok y hy).keep (fun _ _ => kk.rd (by simp)) (fun _ => kk.rd (by simp))
  · intro _
    refine ⟨xs, _, rfl, ?_, ?_⟩
    · exact own_nil _ _ _ _
    · intro p _ _ g off _
      simp [Sl.v, Value.ownBlock]
  · intro h
    exact (I.lf h).keep kk (by simp) (by simp)
/-- A function comes. -/
theorem InvX.add_func {base r : Nat} {w w3 : World} {st : St} {xs : List ClsX} {ys : List FnX} {sc sf : Sl} (I : InvX base r w st xs ys sc sf) {nm : Str} {fl : List Str} {sl : Sl} {gg cap : Nat}
    (ho : w3.ownsRow base 45 3 (.slice (some ⟨gg, 0, none⟩) (ys.length + 1) cap) (ys.length + 1) (fCells ys ++ [sv nm, sl.v fl.length, .slice none 0 0])) (hg : w.grownBy w3 (sf.v ys.length).ownBlock) (hfl : RdB w 9 sl.A (strs fl)) (hff : FarA base sl.A (strs fl)) :
    InvX base r (((w3.setCell ⟨r, 1, none⟩ (.slice (some ⟨gg, 0, none⟩) (ys.length + 1) cap)).setCell ⟨r, 2, none⟩ (.bool true)).setCell ⟨r, 3, none⟩ (.bool false)) ⟨⟨st.p.classes, st.p.funcs ++ [⟨nm, fl, []⟩]⟩, true, false⟩ xs (ys ++ [(⟨nm, fl, []⟩, sl, ⟨none, 0⟩)]) sc ⟨some ⟨gg, 0, none⟩, cap⟩ := by
  have k3 : TKeep [45] w w3 := TKeep.grown I.of hg (by simp)
  have r3 := (k3 r _ 97 I.rd (by simp)).trans I.rd
  have k4 := TKeep.set (T := [97]) (p := ⟨r, 1, none⟩) (u := .slice (some ⟨gg, 0, none⟩) (ys.length + 1) cap) r3 (by simp)
  have r4 := blk_set r3 1 (.slice (some ⟨gg, 0, none⟩) (ys.length + 1) cap)
  have k5 := TKeep.set (T := [97]) (p := ⟨r, 2, none⟩) (u := .bool true) r4 (by simp)
  have r5 := blk_set r4 2 (.bool true)
  have k6 := TKeep.set (T := [97]) (p := ⟨r, 3, none⟩) (u := .bool false) r5 (by simp)
  have r6 := blk_set r5 3 (.bool false)
  have k35 := (k4.trans k5).trans k6
  have kk : TKeep [45, 97] w _ := TKeep.trans (fun g cs t hg ht => k3 g cs t hg (by simp at ht ⊢; exact ht.1)) (fun g cs t hg ht => k35 g cs t hg (by simp at ht ⊢; exact ht.2))
  refine ⟨I.hr, ?_, I.hx, ?_, kk.own (by simp) I.oc, ?_, ?_, ?_, ?_, ?_⟩
  · simpa [Sl.v] using r6
  · simp [I.hy]
  · have := k35.own (by simp) ho
    simpa [Sl.v, fCells_append, fCells, fCells1] using this
  · exact fun x hx => (I.cok x hx).keep (fun _ _ => kk.rd (by simp)) (kk.rd (by simp))
  · intro x hx
    rcases List.mem_append.1 hx with hx | hx
    · exact (I.fok x hx).keep (fun _ _ => kk.rd (by simp)) (fun _ => kk.rd (by simp))
    · simp at hx
      subst hx
      exact ⟨kk.rd (by simp) hfl, hff, [], rfl, .inl rfl, .inl rfl, by simp⟩
  · intro h; cases h
  · intro _
    refine ⟨ys, _, [], rfl, rfl, own_nil _ _ _ _, by simp, ?_⟩
    intro p _ _ g off _
    simp [Sl.v, Value.ownBlock]
/-- A function ends. -/
theorem InvX.end_func {base r : Nat} {w : World} {st : St} {xs : List ClsX} {ys : List FnX} {sc sf : Sl} (I : InvX base r w st xs ys sc sf) :
    InvX base r (w.setCell ⟨r, 2, none⟩ (.bool false)) ⟨st.p, false, st.cls⟩ xs ys sc sf := by
  have kk := TKeep.set (T := [97]) (p := ⟨r, 2, none⟩) (u := .bool false) I.rd (by simp)
  have r5 := blk_set I.rd 2 (.bool false)
  exact ⟨I.hr, by simpa using r5, I.hx, I.hy, kk.own (by simp) I.oc, kk.own (by simp) I.of, fun x hx => (I.cok x hx).keep (fun _ _ => kk.rd (by simp)) (kk.rd (by simp)), fun x hx => (I.fok x hx).keep (fun _ _ => kk.rd (by simp)) (fun _ => kk.rd (by simp)), fun h => (I.lc h).keep kk (by simp), fun h => by cases h⟩
end Go.Proofs.YtdkcdodkhghfhaaGreatDoor
/- A method, and a line of a function, come to a reader. -/
namespace Go.Proofs.YtdkcdodkhghfhaaGreatDoor
open Go.RowKit Go.Proofs.YtdkcdodkhghfhaaGreatDoorW.PrintWords

theorem own_stored {w : World} {base e size n g cap : Nat} {xs : List Value} (h : w.ownsRow base e size (.slice (some ⟨g, 0, none⟩) n cap) n xs) (i : Nat) (_hi : i < n * size) (u : Value) :
    (w.setCell ⟨g, i, none⟩ u).ownsRow base e size (.slice (some ⟨g, 0, none⟩) n cap) n (xs.set i u) := by
  refine ⟨by rw [List.length_set]; exact h.1, .inr ?_⟩
  rcases h.2 with ⟨h1, h2⟩ | ⟨g', cap', cur, h1, h2, h3, h4, h5, h6, h7⟩
  · cases h1
  · injection h1 with e1 e2 e3
    have e1 : g = g' := by injection e1 with e1; injection e1
    subst e1 e3
    refine ⟨g, cap, cur.setIfInBounds i u, rfl, h2, blk_set h3 i u, h4, h5, by simpa using h6, ?_⟩
    rw [Array.toList_setIfInBounds, List.take_set, h7]
theorem own_head {w : World} {base e size n : Nat} {s : Sl} {xs : List Value} (h : w.ownsRow base e size (s.v n) n xs) (hn : 0 < n) : ∃ g, s.A = some ⟨g, 0, none⟩ ∧ ∃ cs, w.heap[g]? = some (.cells cs e (0, 0)) := by
  rcases h.2 with ⟨h1, h2⟩ | ⟨g', cap', cur, h1, h2, h3, _⟩
  · omega
  · injection h1 with e1 e2 e3
    exact ⟨g', e1, cur, h3⟩
theorem set_last3 (l : List Value) (a b c d : Value) (n : Nat) (hl : l.length = n * 3) : (l ++ [a, b, c]).set (n * 3 + 2) d = l ++ [a, b, d] := by
  rw [List.set_append_right _ _ (by omega), hl, show n * 3 + 2 - n * 3 = 2 from by omega]
  rfl
theorem cCells_length (l : List ClsX) : (cCells l).length = l.length * 3 := by
  induction l with
  | nil => rfl
  | cons x l ih => simp only [cCells, List.flatMap_cons, List.length_append] at *; rw [ih]; simp [cCells1]; omega
theorem fCells_length (l : List FnX) : (fCells l).length = l.length * 3 := by
  induction l with
  | nil => rfl
  | cons x l ih => simp only [fCells, List.flatMap_cons, List.length_append] at *; rw [ih]; simp [fCells1]; omega
theorem lCells_append (a b : List LnX) : lCells (a ++ b) = lCells a ++ lCells b := by simp [lCells]
theorem mCells_append (a b : List (Str × Str)) : mCells (a ++ b) = mCells a ++ mCells b := by simp [mCells]

theorem mCells_nil {l : List (Str × Str)} (h : mCells l = []) : l = [] := by
  cases l with
  | nil => rfl
  | cons x l => simp [mCells] at h
theorem rd_other {w w' : World} {e : Nat} {A : Option Addr} {cells : List Value} {row : Option Nat} (h : RdB w e A cells) (hg : w.grownBy w' row) (hne : cells ≠ [] → ∀ g off, A = some ⟨g, off, none⟩ → some g ≠ row) : RdB w' e A cells := by
  by_cases hc : cells = []
  · exact .inl hc
  · exact h.grown hg (hne hc)
/-- A method comes to the last class. -/
theorem InvX.add_method {base r : Nat} {w w3 : World} {st : St} {pre : List ClsX} {x : ClsX} {ys : List FnX} {sc sf : Sl} (I : InvX base r w st (pre ++ [x]) ys sc sf) (hcls : st.cls = true) {a b : Str} {gg cap gc : Nat}
    (hl : w.ownsRow base 52 2 (x.2.2.v x.1.methods.length) x.1.methods.length (mCells x.1.methods)) (hd : ∀ p ∈ pre, p.1.methods ≠ [] → ∀ g off, p.2.2.A = some ⟨g, off, none⟩ → some g ≠ (x.2.2.v x.1.methods.length).ownBlock)
    (ho : w3.ownsRow base 52 2 (.slice (some ⟨gg, 0, none⟩) (x.1.methods.length + 1) cap) (x.1.methods.length + 1) (mCells x.1.methods ++ [sv a, sv b])) (hg : w.grownBy w3 (x.2.2.v x.1.methods.length).ownBlock)
    (hat : (x.2.2.v x.1.methods.length).ownBlock = some gg ∨ w.heap.size ≤ gg) (hgc : sc.A = some ⟨gc, 0, none⟩) :
    InvX base r (w3.setCell ⟨gc, pre.length * 3 + 2, none⟩ (.slice (some ⟨gg, 0, none⟩) (x.1.methods.length + 1) cap)) ⟨⟨pre.map (·.1) ++ [⟨x.1.nm, x.1.fields, x.1.methods ++ [(a, b)]⟩], st.p.funcs⟩, st.inside, true⟩
      (pre ++ [(⟨x.1.nm, x.1.fields, x.1.methods ++ [(a, b)]⟩, x.2.1, ⟨some ⟨gg, 0, none⟩, cap⟩)]) ys sc sf := by
  have hlen : (pre ++ [x]).length = pre.length + 1 := by simp
  have k3 : TKeep [52] w w3 := TKeep.grown hl hg (by simp)
  have oc3 := k3.own (by simp) I.oc
  obtain ⟨gc', hgc', cs, hcs⟩ := own_head oc3 (by simp)
  have hgg : gc' = gc := by rw [hgc] at hgc'; injection hgc' with e; injection e with e1; exact e1.symm
  subst hgg
  have k4 : TKeep [50] w3 _ := TKeep.set (p := ⟨gc', pre.length * 3 + 2, none⟩) (u := .slice (some ⟨gg, 0, none⟩) (x.1.methods.length + 1) cap) hcs (by simp)
  have kk : TKeep [52, 50] w _ := TKeep.trans (fun g cs t hg ht => k3 g cs t hg (by simp at ht ⊢; exact ht.1)) (fun g cs t hg ht => k4 g cs t hg (by simp at ht ⊢; exact ht.2))
  have oth : ∀ p ∈ pre, RdB w 52 p.2.2.A (mCells p.1.methods) → RdB (w3.setCell ⟨gc', pre.length * 3 + 2, none⟩ (.slice (some ⟨gg, 0, none⟩) (x.1.methods.length + 1) cap)) 52 p.2.2.A (mCells p.1.methods) :=
    fun p hp h => k4.rd (by simp) (rd_other h hg (fun hne => hd p hp (fun e => hne (by rw [e]; rfl))))
  refine ⟨I.hr, ?_, ?_, I.hy, ?_, kk.own (by simp) I.of, ?_, fun y hy => (I.fok y hy).keep (fun _ _ => kk.rd (by simp)) (fun _ => kk.rd (by simp)), ?_, fun h => (I.lf h).keep kk (by simp) (by simp)⟩
  · have := (kk r _ 97 I.rd (by simp)).trans I.rd
    rw [this]
    simp [hcls]
  · simp
  · have e : sc.v (pre.length + 1) = .slice (some ⟨gc', 0, none⟩) (pre.length + 1) sc.cap := by simp [Sl.v, hgc]
    rw [hlen, e, cCells_append] at oc3
    have h := own_stored oc3 (pre.length * 3 + 2) (by omega) (.slice (some ⟨gg, 0, none⟩) (x.1.methods.length + 1) cap)
    rw [show cCells [x] = [sv x.1.nm, .slice x.2.1.A x.1.fields.length x.2.1.cap, .slice x.2.2.A x.1.methods.length x.2.2.cap] from by simp [cCells, cCells1], set_last3 _ _ _ _ _ _ (cCells_length pre)] at h
    rw [List.length_append, cCells_append]
    simp only [List.length_singleton]
    rw [e]
    simpa [cCells, cCells1] using h
  · intro p hp
    rcases List.mem_append.1 hp with hp | hp
    · have := I.cok p (by simp [hp])
      exact this.keep (fun _ _ => kk.rd (by simp)) (oth p hp)
    · simp at hp
      subst hp
      have := I.cok x (by simp)
      refine ⟨⟨kk.rd (by simp) this.1.1, ?_⟩, this.2.1, FarA.of_own ho⟩
      have h := RdB.of_own (k4.own (by simp) ho)
      rw [mCells_append]
      simpa [mCells] using h
  · intro _
    refine ⟨pre, _, rfl, ?_, ?_⟩
    · have h := k4.own (by simp) ho
      rw [mCells_append]
      simpa [Sl.v, mCells] using h
    · intro p hp hm g off hA
      simp only [Sl.v, Value.ownBlock]
      intro e
      have e : g = gg := by simpa using e
      subst e
      rcases hat with hat | hat
      · exact hd p hp hm g off hA hat.symm
      · rcases (I.cok p (by simp [hp])).1.2 with h | ⟨g', off', cs', hA', hg', _⟩
        · exact hm (mCells_nil h)
        · rw [hA] at hA'
          injection hA' with e1; injection e1 with e1
          subst e1
          have := sizeB hg'
          omega
theorem lCells_nil {l : List LnX} (h : lCells l = []) : l = [] := by
  cases l with
  | nil => rfl
  | cons x l => simp [lCells, lCells1, Ln.cells] at h
/-- A line comes to the last function. -/
theorem InvX.add_line {base r : Nat} {w w3 : World} {st : St} {pre : List FnX} {x : FnX} {xs : List ClsX} {sc sf : Sl} {zs : List LnX} (I : InvX base r w st xs (pre ++ [x]) sc sf) (hins : st.inside = true) {l : LnX} {gg cap gc : Nat}
    (hz : zs.map (·.1) = x.1.lines) (hzo : ∀ z ∈ zs, LnOkF base w z) (hlo : LnOkF base w l)
    (hl : w.ownsRow base 40 9 (x.2.2.v x.1.lines.length) x.1.lines.length (lCells zs)) (hd : ∀ p ∈ pre, p.1.lines ≠ [] → ∀ g off, p.2.2.A = some ⟨g, off, none⟩ → some g ≠ (x.2.2.v x.1.lines.length).ownBlock)
    (ho : w3.ownsRow base 40 9 (.slice (some ⟨gg, 0, none⟩) (x.1.lines.length + 1) cap) (x.1.lines.length + 1) (lCells zs ++ lCells1 l)) (hg : w.grownBy w3 (x.2.2.v x.1.lines.length).ownBlock)
    (hat : (x.2.2.v x.1.lines.length).ownBlock = some gg ∨ w.heap.size ≤ gg) (hgc : sf.A = some ⟨gc, 0, none⟩) :
    InvX base r (w3.setCell ⟨gc, pre.length * 3 + 2, none⟩ (.slice (some ⟨gg, 0, none⟩) (x.1.lines.length + 1) cap)) ⟨⟨st.p.classes, pre.map (·.1) ++ [⟨x.1.nm, x.1.params, x.1.lines ++ [l.1]⟩]⟩, true, st.cls⟩
      xs (pre ++ [(⟨x.1.nm, x.1.params, x.1.lines ++ [l.1]⟩, x.2.1, ⟨some ⟨gg, 0, none⟩, cap⟩)]) sc sf := by
  have hlen : (pre ++ [x]).length = pre.length + 1 := by simp
  have k3 : TKeep [40] w w3 := TKeep.grown hl hg (by simp)
  have oc3 := k3.own (by simp) I.of
  obtain ⟨gc', hgc', cs, hcs⟩ := own_head oc3 (by simp)
  have hgg : gc' = gc := by rw [hgc] at hgc'; injection hgc' with e; injection e with e1; exact e1.symm
  subst hgg
  have k4 : TKeep [45] w3 _ := TKeep.set (p := ⟨gc', pre.length * 3 + 2, none⟩) (u := .slice (some ⟨gg, 0, none⟩) (x.1.lines.length + 1) cap) hcs (by simp)
  have kk : TKeep [40, 45] w _ := TKeep.trans (fun g cs t hg ht => k3 g cs t hg (by simp at ht ⊢; exact ht.1)) (fun g cs t hg ht => k4 g cs t hg (by simp at ht ⊢; exact ht.2))
  have hzl : ∀ z ∈ zs ++ [l], LnOkF base (w3.setCell ⟨gc', pre.length * 3 + 2, none⟩ (.slice (some ⟨gg, 0, none⟩) (x.1.lines.length + 1) cap)) z := by
    intro z hz
    rcases List.mem_append.1 hz with hz | hz
    · exact (hzo z hz).keep (fun _ _ => kk.rd (by simp))
    · simp at hz; subst hz; exact hlo.keep (fun _ _ => kk.rd (by simp))
  have hzm : (zs ++ [l]).map (·.1) = x.1.lines ++ [l.1] := by simp [hz]
  refine ⟨I.hr, ?_, I.hx, ?_, kk.own (by simp) I.oc, ?_, fun y hy => (I.cok y hy).keep (fun _ _ => kk.rd (by simp)) (kk.rd (by simp)), ?_, fun h => (I.lc h).keep kk (by simp), ?_⟩
  · have := (kk r _ 97 I.rd (by simp)).trans I.rd
    rw [this]
    simp [hins]
  · simp
  · have e : sf.v (pre.length + 1) = .slice (some ⟨gc', 0, none⟩) (pre.length + 1) sf.cap := by simp [Sl.v, hgc]
    rw [hlen, e, fCells_append] at oc3
    have h := own_stored oc3 (pre.length * 3 + 2) (by omega) (.slice (some ⟨gg, 0, none⟩) (x.1.lines.length + 1) cap)
    rw [show fCells [x] = [sv x.1.nm, .slice x.2.1.A x.1.params.length x.2.1.cap, .slice x.2.2.A x.1.lines.length x.2.2.cap] from by simp [fCells, fCells1], set_last3 _ _ _ _ _ _ (fCells_length pre)] at h
    rw [List.length_append, fCells_append]
    simp only [List.length_singleton]
    rw [e]
    simpa [fCells, fCells1] using h
  · intro p hp
    rcases List.mem_append.1 hp with hp | hp
    · obtain ⟨h1, hf1, zs', h2, h3, hf3, h4⟩ := I.fok p (by simp [hp])
      refine ⟨kk.rd (by simp) h1, hf1, zs', h2, ?_, hf3, fun z hz => (h4 z hz).keep (fun _ _ => kk.rd (by simp))⟩
      exact k4.rd (by simp) (rd_other h3 hg (fun hne => hd p hp (fun e => hne (by
        rw [← h2] at e
        have : zs' = [] := by simpa using e
        rw [this]; rfl))))
    · simp at hp
      subst hp
      obtain ⟨h1, hf1, _⟩ := I.fok x (by simp)
      refine ⟨kk.rd (by simp) h1, hf1, zs ++ [l], hzm, ?_, FarA.of_own ho, hzl⟩
      have h := RdB.of_own (k4.own (by simp) ho)
      rw [lCells_append]
      simpa [lCells] using h
  · intro _
    refine ⟨pre, _, zs ++ [l], rfl, hzm, ?_, hzl, ?_⟩
    · have h := k4.own (by simp) ho
      rw [lCells_append]
      simpa [Sl.v, lCells] using h
    · intro p hp hm g off hA
      simp only [Sl.v, Value.ownBlock]
      intro e
      have e : g = gg := by simpa using e
      subst e
      rcases hat with hat | hat
      · exact hd p hp hm g off hA hat.symm
      · obtain ⟨_, _, zs', h2, h3, _⟩ := I.fok p (by simp [hp])
        rcases h3 with h | ⟨g', off', cs', hA', hg', _⟩
        · exact hm (by rw [← h2, lCells_nil h]; rfl)
        · rw [hA] at hA'
          injection hA' with e1; injection e1 with e1
          subst e1
          have := sizeB hg'
          omega
end Go.Proofs.YtdkcdodkhghfhaaGreatDoor
