/- The reference: a line made of numbers. -/
import Derived.Test.YtdkcdodkhghfhaaGreatDoorRS
import Derived.Deep.DeepCutAuto
namespace Go.Proofs.YtdkcdodkhghfhaaGreatDoor
open Go.RowKit Go.Proofs.YtdkcdodkhghfhaaGreatDoorW.PrintWords Go.Proofs.YtdkcdodkhghfhaaGreatDoorW.PrintLast

/-- Nothing that stood has turned, but the count of numbers used. -/
structure NumW (b : Nat) (w w' : World) : Prop where
  u : Below b w w'
  k : ∀ g, g < w.heap.size → g ≠ b → w'.heap[g]? = w.heap[g]?
theorem NumW.refl (b : Nat) (w : World) : NumW b w w := ⟨Below.refl _ _, fun _ _ _ => rfl⟩
theorem NumW.trans {b : Nat} {w w1 w2 : World} (h : NumW b w w1) (h' : NumW b w1 w2) : NumW b w w2 := ⟨h.u.trans h'.u, fun g hg hne => (h'.k g (Nat.lt_of_lt_of_le hg h.u.size) hne).trans (h.k g hg hne)⟩
theorem NumW.of_to {b : Nat} {w w' : World} (h : NumTo b w w') : NumW b w w' := ⟨h.u, fun g _ hne => h.k g hne⟩
theorem NumW.of_below {b : Nat} {w w' : World} (h : Below w.heap.size w w') (hb : b ≤ w.heap.size) : NumW b w w' := ⟨h.mono hb, fun g hg _ => h.block g hg⟩
theorem NumW.alloc {b : Nat} {w w' : World} (h : NumW b w w') (hb : b ≤ w.heap.size) (o : Obj) : NumW b w (w'.alloc o) := h.trans (NumW.of_below ((Below.refl _ _).alloc (Nat.le_refl _) o) (Nat.le_trans hb h.u.size))
theorem NumW.set {b : Nat} {w w' : World} (h : NumW b w w') (hb : b ≤ w.heap.size) {p : Addr} (hp : w.heap.size ≤ p.block) (v : Value) : NumW b w (w'.setCell p v) :=
  ⟨h.u.setCell (Nat.le_trans hb hp) v, fun g hg hne => (Below.heap_setCell _ _ _ _ (by omega)).trans (h.k g hg hne)⟩
theorem NumsIn.below {L : List Int} {A : Option Addr} {b : Nat} {w w' : World} (h : NumsIn L A b w) (hb : Below b w w') : NumsIn L A b w' := fun j z hz => by
  obtain ⟨a, h1, h2, h3⟩ := h j z hz
  exact ⟨a, h1, h2, (hb.cell (p := a.add j) (by rw [add_block']; exact h2)).trans h3⟩
theorem NumAt.below {L : List Int} {A : Option Addr} {cp b K : Nat} {w w' : World} (h : NumAt L A cp b K w) (hb : Below w.heap.size w w') : NumAt L A cp b K w' := (hb.block _ (sizeB h)).trans h
theorem NumAt.lt {L : List Int} {A : Option Addr} {cp b K : Nat} {w : World} (h : NumAt L A cp b K w) : b < w.heap.size := sizeB h
theorem nxt_le (L : List Int) (K : Nat) (n : Int) (h : K ≤ L.length) : (nxtS L K n).2 ≤ L.length := by
  unfold nxtS
  split
  · rename_i h'; have := h'.1; simp only; omega
  · exact h

/-- Fields by numbers. -/
def fieldsS (L : List Int) (sh : Nat → Bool) (K : Nat) : Nat → List Str × Nat
  | 0 => ([], K)
  | k + 1 => if sh k = true then ((fieldsS L sh K k).1 ++ [wordN (nxtS L (fieldsS L sh K k).2 8).1], (nxtS L (fieldsS L sh K k).2 8).2) else ((fieldsS L sh K k).1 ++ [[]], (fieldsS L sh K k).2)
theorem fieldsS_len (L : List Int) (sh : Nat → Bool) (K : Nat) : ∀ k, (fieldsS L sh K k).1.length = k
  | 0 => rfl
  | k + 1 => by
    have ih := fieldsS_len L sh K k
    unfold fieldsS
    split <;> simp [ih]
theorem fieldsS_le (L : List Int) (sh : Nat → Bool) (K : Nat) (h : K ≤ L.length) : ∀ k, (fieldsS L sh K k).2 ≤ L.length
  | 0 => h
  | k + 1 => by
    have ih := fieldsS_le L sh K h k
    unfold fieldsS
    split
    · exact nxt_le _ _ _ ih
    · exact ih
/-- Words by numbers. -/
def wordsS' (L : List Int) (K : Nat) : Nat → List Str × Nat
  | 0 => ([], K)
  | k + 1 => ((wordsS' L K k).1 ++ [wordN (nxtS L (wordsS' L K k).2 8).1], (nxtS L (wordsS' L K k).2 8).2)
theorem wordsS'_len (L : List Int) (K : Nat) : ∀ k, (wordsS' L K k).1.length = k
  | 0 => rfl
  | k + 1 => by simp [wordsS', wordsS'_len L K k]
theorem wordsS'_le (L : List Int) (K : Nat) (h : K ≤ L.length) : ∀ k, (wordsS' L K k).2 ≤ L.length
  | 0 => h
  | k + 1 => nxt_le _ _ _ (wordsS'_le L K h k)
theorem wordsS'_names (L : List Int) (K : Nat) : ∀ k, (wordsS' L K k).1.all nameS = true ∧ ∀ x ∈ (wordsS' L K k).1, x.length ≤ 12
  | 0 => ⟨rfl, by simp [wordsS']⟩
  | k + 1 => by
    have ih := wordsS'_names L K k
    have hw := wordN_name (nxtS L (wordsS' L K k).2 8).1
    refine ⟨by simp [wordsS', ih.1, hw.1], fun x hx => ?_⟩
    simp only [wordsS', List.mem_append, List.mem_singleton] at hx
    rcases hx with hx | rfl
    · exact ih.2 x hx
    · exact hw.2
def shAt (s : Bool × Bool × Bool × Bool) : Nat → Bool
  | 0 => s.1
  | 1 => s.2.1
  | 2 => s.2.2.1
  | _ => s.2.2.2
def takesArgs (op : Int) : Bool := decide (op = 22) || decide (op = 23) || decide (op = 24) || decide (op = 25) || decide (op = 32)
/-- The constant of a line. -/
def lineCv (L : List Int) (K : Nat) (op : Int) : Val × Nat :=
  if op = 1 then (constV (nxtS L K 200).1, (nxtS L K 200).2) else if op = 32 then (⟨3, (nxtS L K 8).1 - 2, []⟩, (nxtS L K 8).2) else (Val.zero, K)
def lineArgs (L : List Int) (K : Nat) (op : Int) : List Str × Nat :=
  if takesArgs op = true then wordsS' L (nxtS L K 9).2 (nxtS L K 9).1.toNat else ([], K)
/-- A line made of numbers, and how many are used. -/
def mLine (L : List Int) (K : Nat) : Ln × Nat :=
  let op := 1 + (nxtS L K 42).1
  let f := fieldsS L (shAt (shows op)) (nxtS L K 42).2 4
  let c := lineCv L f.2 op
  let a := lineArgs L c.2 op
  (⟨op, f.1.getD 0 [], f.1.getD 1 [], f.1.getD 2 [], f.1.getD 3 [], a.1, c.1⟩, a.2)

def zero40 : Array Value := #[.int .i64 0, .string ⟨#[]⟩, .string ⟨#[]⟩, .string ⟨#[]⟩, .string ⟨#[]⟩, .slice none 0 0, .int .i64 0, .int .i64 0, .string ⟨#[]⟩]
/-- What stands while a line is made. -/
structure MSt (L : List Int) (A : Option Addr) (cp b : Nat) (w : World) (g3 g4 g5 : Nat) (ln sh fl : Array Value) (K : Nat) (wr : World) : Prop where
  r : wr.heap[w.heap.size]? = some (.cells zero40 40 (0, 0))
  l : wr.heap[g3]? = some (.cells ln 40 (0, 0))
  s : wr.heap[g4]? = some (.cells sh 111 (0, 0))
  f : wr.heap[g5]? = some (.cells fl 113 (0, 0))
  n : NumAt L A cp b K wr
  t : NumW b w wr
  kl : K ≤ L.length
theorem MSt.next {L : List Int} {A : Option Addr} {cp b : Nat} {w : World} {g3 g4 g5 : Nat} {ln sh fl : Array Value} {K K' : Nat} {wr w' : World} (h : MSt L A cp b w g3 g4 g5 ln sh fl K wr) (hb : b < w.heap.size) (h3 : w.heap.size ≤ g3) (h4 : w.heap.size ≤ g4) (h5 : w.heap.size ≤ g5)
    (hn : NumAt L A cp b K' w') (ht : NumTo b wr w') (hk : K' ≤ L.length) : MSt L A cp b w g3 g4 g5 ln sh fl K' w' :=
  ⟨(ht.k _ (by omega)).trans h.r, (ht.k _ (by omega)).trans h.l, (ht.k _ (by omega)).trans h.s, (ht.k _ (by omega)).trans h.f, hn, h.t.trans (NumW.of_to ht), hk⟩
theorem MSt.below {L : List Int} {A : Option Addr} {cp b : Nat} {w : World} {g3 g4 g5 : Nat} {ln sh fl : Array Value} {K : Nat} {wr w' : World} (h : MSt L A cp b w g3 g4 g5 ln sh fl K wr) (hb : Below wr.heap.size wr w') (hbw : b < w.heap.size) : MSt L A cp b w g3 g4 g5 ln sh fl K w' :=
  ⟨(hb.block _ (sizeB h.r)).trans h.r, (hb.block _ (sizeB h.l)).trans h.l, (hb.block _ (sizeB h.s)).trans h.s, (hb.block _ (sizeB h.f)).trans h.f, h.n.below hb, h.t.trans (NumW.of_below hb (by have := h.t.u.size; omega)), h.kl⟩
theorem MSt.setf {L : List Int} {A : Option Addr} {cp b : Nat} {w : World} {g3 g4 g5 : Nat} {ln sh fl : Array Value} {K : Nat} {wr : World} (h : MSt L A cp b w g3 g4 g5 ln sh fl K wr) (hbw : b < w.heap.size) (h0 : w.heap.size < g5) (h3 : g3 ≠ g5) (h4 : g4 ≠ g5) (hi : w.heap.size ≤ g5) {i : Nat} (v : Value) : MSt L A cp b w g3 g4 g5 ln sh (fl.setIfInBounds i v) K (wr.setCell ⟨g5, i, none⟩ v) :=
  ⟨(Below.heap_setCell _ _ _ _ (by simp; omega)).trans h.r, (Below.heap_setCell _ _ _ _ h3).trans h.l, (Below.heap_setCell _ _ _ _ h4).trans h.s, blk_set h.f i v, (Below.heap_setCell _ _ _ _ (by simp; omega)).trans h.n, h.t.set (by omega) hi v, h.kl⟩
theorem MSt.setl {L : List Int} {A : Option Addr} {cp b : Nat} {w : World} {g3 g4 g5 : Nat} {ln sh fl : Array Value} {K : Nat} {wr : World} (h : MSt L A cp b w g3 g4 g5 ln sh fl K wr) (hbw : b < w.heap.size) (h0 : w.heap.size < g3) (h4 : g4 ≠ g3) (h5 : g5 ≠ g3) {i : Nat} (v : Value) : MSt L A cp b w g3 g4 g5 (ln.setIfInBounds i v) sh fl K (wr.setCell ⟨g3, i, none⟩ v) :=
  ⟨(Below.heap_setCell _ _ _ _ (by simp; omega)).trans h.r, blk_set h.l i v, (Below.heap_setCell _ _ _ _ h4).trans h.s, (Below.heap_setCell _ _ _ _ h5).trans h.f, (Below.heap_setCell _ _ _ _ (by simp; omega)).trans h.n, h.t.set (by omega) (by simp; omega) v, h.kl⟩
theorem TKeep.of_num {L : List Int} {A : Option Addr} {cp b K : Nat} {w w' : World} (h : NumAt L A cp b K w) (ht : NumTo b w w') : TKeep [58] w w' := fun g cs t hg hn => ht.k g (fun e => by
  subst e
  rw [h] at hg
  injection hg with hg
  injection hg with _ h2
  exact hn (by simp [h2]))
theorem MSt.grown {L : List Int} {A : Option Addr} {cp b : Nat} {w : World} {g3 g4 g5 : Nat} {ln sh fl : Array Value} {K : Nat} {wr w' : World} {n : Nat} {v : Value} {xs : List Value} (h : MSt L A cp b w g3 g4 g5 ln sh fl K wr) (hbw : b < w.heap.size)
    (ho : wr.ownsRow w.heap.size 9 1 v n xs) (hg : wr.grownBy w' v.ownBlock) : MSt L A cp b w g3 g4 g5 ln sh fl K w' :=
  ⟨(hg.block _ (sizeB h.r) (own_ne ho h.r (by decide))).trans h.r, (hg.block _ (sizeB h.l) (own_ne ho h.l (by decide))).trans h.l, (hg.block _ (sizeB h.s) (own_ne ho h.s (by decide))).trans h.s, (hg.block _ (sizeB h.f) (own_ne ho h.f (by decide))).trans h.f,
    (hg.block _ h.n.lt (own_ne ho h.n (by decide))).trans h.n, ⟨h.t.u.grown hg (by have := h.t.u.size; omega) (fun k hk => by have := own_base ho k hk; omega), fun g hgl hne => (hg.block g (Nat.lt_of_lt_of_le hgl h.t.u.size) (fun e => by have := own_base ho g e.symm; omega)).trans (h.t.k g hgl hne)⟩, h.kl⟩
theorem results_ln {fn : Func} {tmps : Array Value} {W : World} {g : Nat} {v0 v1 v2 v3 v4 v5 v6 v7 v8 : Value} (hres : fn.results = #[.cell 2 40]) (h2 : tmps.getD 2 undef = .pointer (some ⟨g, 0, none⟩))
    (hb : W.heap[g]? = some (.cells #[v0, v1, v2, v3, v4, v5, v6, v7, v8] 40 (0, 0))) (h0 : v0.oneCell' = true ∧ v1.oneCell' = true ∧ v2.oneCell' = true ∧ v3.oneCell' = true ∧ v4.oneCell' = true ∧ v5.oneCell' = true ∧ v6.oneCell' = true ∧ v7.oneCell' = true ∧ v8.oneCell' = true) :
    (results fn tmps).run Tryz.prog W = .ok (.agg #[v0, v1, v2, v3, v4, v5, v6, v7, v8]) W := by
  have c0 := cellB hb 0 rfl
  have c1 := cellB hb 1 rfl
  have c2 := cellB hb 2 rfl
  have c3 := cellB hb 3 rfl
  have c4 := cellB hb 4 rfl
  have c5 := cellB hb 5 rfl
  have c6 := cellB hb 6 rfl
  have c7 := cellB hb 7 rfl
  have c8 := cellB hb 8 rfl
  obtain ⟨k0, k1, k2, k3, k4, k5, k6, k7, k8⟩ := h0
  simp at c0 c1 c2 c3 c4 c5 c6 c7 c8 h2
  simp [results, hres, h2, go_sem, c0, c1, c2, c3, c4, c5, c6, c7, c8, k0, k1, k2, k3, k4, k5, k6, k7, k8]
theorem MSt.put9 {L : List Int} {A : Option Addr} {cp b : Nat} {w : World} {g3 g4 g5 : Nat} {ln sh fl : Array Value} {K n : Nat} {wr : World} {v : Value} {xs : List Value} (h : MSt L A cp b w g3 g4 g5 ln sh fl K wr) (hbw : b < w.heap.size) (ho : wr.ownsRow w.heap.size 9 1 v n xs) {v0 v1 v2 v3 v4 v5 v6 v7 v8 : Value} :
    let W := (((((((((wr.setCell ⟨w.heap.size, 0, none⟩ v0).setCell ⟨w.heap.size, 1, none⟩ v1).setCell ⟨w.heap.size, 2, none⟩ v2).setCell ⟨w.heap.size, 3, none⟩ v3).setCell ⟨w.heap.size, 4, none⟩ v4).setCell ⟨w.heap.size, 5, none⟩ v5).setCell ⟨w.heap.size, 6, none⟩ v6).setCell ⟨w.heap.size, 7, none⟩ v7).setCell ⟨w.heap.size, 8, none⟩ v8)
    NumAt L A cp b K W ∧ K ≤ L.length ∧ NumW b w W ∧ W.ownsRow w.heap.size 9 1 v n xs :=
  ⟨(far_put9 (by omega)).trans h.n, h.kl, ⟨below_put9 h.t.u (by omega), fun g hg hne => (far_put9 (by omega)).trans (h.t.k g hg hne)⟩, own_put9 ho (own_ne ho h.r (by decide))⟩
end Go.Proofs.YtdkcdodkhghfhaaGreatDoor
