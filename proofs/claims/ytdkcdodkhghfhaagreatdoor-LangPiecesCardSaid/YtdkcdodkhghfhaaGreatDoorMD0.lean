/- The reference: what stands while a program is made of numbers. -/
import Derived.Test.YtdkcdodkhghfhaaGreatDoorQ6
import Derived.Test.YtdkcdodkhghfhaaGreatDoorC3
import Derived.Test.YtdkcdodkhghfhaaGreatDoorPS
namespace Go.Proofs.YtdkcdodkhghfhaaGreatDoor
open Go.RowKit Go.Proofs.YtdkcdodkhghfhaaGreatDoorW.PrintWords Go.Proofs.YtdkcdodkhghfhaaGreatDoorW.PrintLast

theorem TKeep.of_numW {L : List Int} {A : Option Addr} {cp b K : Nat} {w w' : World} (h : NumAt L A cp b K w) (ht : NumW b w w') : TKeep [58] w w' := fun g cs t hg hn => ht.k g (sizeB hg) (fun e => by
  subst e
  rw [h] at hg
  injection hg with hg
  injection hg with _ h2
  exact hn (by simp [h2]))
theorem own_setN {w : World} {g i base e size n : Nat} {v : Value} {xs : List Value} (h : w.ownsRow base e size v n xs) (hne : some g ≠ v.ownBlock) (u : Value) : (w.setCell ⟨g, i, none⟩ u).ownsRow base e size v n xs := by
  refine ⟨h.1, ?_⟩
  rcases h.2 with h1 | ⟨g', cap, cur, h1, h2, h3, h4⟩
  · exact .inl h1
  · exact .inr ⟨g', cap, cur, h1, h2, (Below.heap_setCell _ _ _ _ (fun e => hne (by rw [h1]; simp [Value.ownBlock]; exact e.symm))).trans h3, h4⟩
theorem NumAt.grownG {L : List Int} {A : Option Addr} {cp b K : Nat} {w w' : World} {base e size n : Nat} {v : Value} {xs : List Value} (h : NumAt L A cp b K w) (ho : w.ownsRow base e size v n xs) (he : e ≠ 58) (hg : w.grownBy w' v.ownBlock) : NumAt L A cp b K w' := (hg.block _ h.lt (own_ne ho h he)).trans h
/-- What stands while a program is made: the result's box, the numbers, the program's box, its rows. -/
structure MdX (L : List Int) (A : Option Addr) (cp : Nat) (w : World) (K : Nat) (xs : List ClsX) (ys : List FnX) (sc sf : Sl) (wr : World) : Prop where
  r : wr.heap[w.heap.size]? = some (.cells #[.slice none 0 0, .slice none 0 0] 27 (0, 0))
  n : NumAt L A cp (w.heap.size + 1) K wr
  p : wr.heap[w.heap.size + 1 + 1]? = some (.cells #[sc.v xs.length, sf.v ys.length] 27 (0, 0))
  oc : wr.ownsRow w.heap.size 50 3 (sc.v xs.length) xs.length (cCells xs)
  of : wr.ownsRow w.heap.size 45 3 (sf.v ys.length) ys.length (fCells ys)
  cok : ∀ x ∈ xs, ClsOk wr x
  fok : ∀ y ∈ ys, FnOk wr y
  kl : K ≤ L.length
  u : Below w.heap.size w wr
section
variable {L : List Int} {A : Option Addr} {cp : Nat} {w : World} {K K' : Nat} {xs : List ClsX} {ys : List FnX} {sc sf : Sl} {wr wr' : World}
theorem MdX.z (h : MdX L A cp w K xs ys sc sf wr) : w.heap.size + 2 < wr.heap.size := sizeB h.p
theorem MdX.keep (h : MdX L A cp w K xs ys sc sf wr) {T : List Nat} (k : TKeep T wr wr') (h50 : 50 ∉ T) (h45 : 45 ∉ T) (h9 : 9 ∉ T) (h52 : 52 ∉ T) (h40 : 40 ∉ T) (h27 : 27 ∉ T) (hn : NumAt L A cp (w.heap.size + 1) K' wr') (hk : K' ≤ L.length) (hu : Below w.heap.size wr wr') : MdX L A cp w K' xs ys sc sf wr' where
  r := (k _ _ _ h.r h27).trans h.r
  n := hn
  p := (k _ _ _ h.p h27).trans h.p
  oc := k.own h50 h.oc
  of := k.own h45 h.of
  cok := fun x hx => (h.cok x hx).keep (fun _ _ => k.rd h9) (k.rd h52)
  fok := fun y hy => (h.fok y hy).keep (fun _ _ => k.rd h9) (fun _ => k.rd h40)
  kl := hk
  u := h.u.trans hu
theorem MdX.num (h : MdX L A cp w K xs ys sc sf wr) (ht : NumW (w.heap.size + 1) wr wr') (hn : NumAt L A cp (w.heap.size + 1) K' wr') (hk : K' ≤ L.length) : MdX L A cp w K' xs ys sc sf wr' :=
  h.keep (TKeep.of_numW h.n ht) (by simp) (by simp) (by simp) (by simp) (by simp) (by simp) hn hk (ht.u.mono (by omega))
theorem MdX.below (h : MdX L A cp w K xs ys sc sf wr) (hb : Below wr.heap.size wr wr') : MdX L A cp w K xs ys sc sf wr' :=
  h.num (NumW.of_below hb (by have := h.z; omega)) (h.n.below hb) h.kl
theorem MdX.nums (h : MdX L A cp w K xs ys sc sf wr) (hA : NumsIn L A w.heap.size w) : NumsIn L A (w.heap.size + 1) wr := fun j z hz => by
  obtain ⟨a, h1, h2, h3⟩ := hA j z hz
  exact ⟨a, h1, by omega, (h.u.cell (p := a.add j) (by rw [add_block']; exact h2)).trans h3⟩
theorem MdX.add_c (h : MdX L A cp w K xs ys sc sf wr) {x : ClsX} (hx : ClsOk wr x) {gg cap : Nat} (ho : wr'.ownsRow w.heap.size 50 3 (.slice (some ⟨gg, 0, none⟩) (xs.length + 1) cap) (xs.length + 1) (cCells xs ++ cCells1 x)) (hg : wr.grownBy wr' (sc.v xs.length).ownBlock) :
    MdX L A cp w K (xs ++ [x]) ys ⟨some ⟨gg, 0, none⟩, cap⟩ sf (wr'.setCell ⟨w.heap.size + 1 + 1, 0, none⟩ (.slice (some ⟨gg, 0, none⟩) (xs.length + 1) cap)) := by
  have k3 : TKeep [50] wr wr' := TKeep.grown h.oc hg (by simp)
  have p3 := (k3 _ _ _ h.p (by simp)).trans h.p
  have r3 := (k3 _ _ _ h.r (by simp)).trans h.r
  have n3 := (k3 _ _ _ h.n (by simp)).trans h.n
  have k4 : TKeep [27] wr' (wr'.setCell ⟨w.heap.size + 1 + 1, 0, none⟩ (.slice (some ⟨gg, 0, none⟩) (xs.length + 1) cap)) := TKeep.set p3 (by simp)
  refine ⟨(Below.heap_setCell _ _ _ _ (by simp; omega)).trans r3, (k4 _ _ _ n3 (by simp)).trans n3, ?_, ?_, k4.own (by simp) (k3.own (by simp) h.of), ?_, ?_, h.kl, (h.u.grown hg (by have := h.z; omega) (fun k hk => own_base h.oc k hk)).setCell (by simp; omega) _⟩
  · have := blk_set p3 0 (.slice (some ⟨gg, 0, none⟩) (xs.length + 1) cap)
    simpa [Sl.v] using this
  · have := k4.own (by simp) ho
    simpa [Sl.v, cCells_append, cCells] using this
  · intro y hy
    have kk : ClsOk wr y := by
      rcases List.mem_append.1 hy with hy | hy
      · exact h.cok y hy
      · rw [List.mem_singleton.1 hy]; exact hx
    exact (kk.keep (fun _ _ => k3.rd (by simp)) (k3.rd (by simp))).keep (fun _ _ => k4.rd (by simp)) (k4.rd (by simp))
  · exact fun y hy => ((h.fok y hy).keep (fun _ _ => k3.rd (by simp)) (fun _ => k3.rd (by simp))).keep (fun _ _ => k4.rd (by simp)) (fun _ => k4.rd (by simp))
theorem MdX.add_f (h : MdX L A cp w K xs ys sc sf wr) {y : FnX} (hy : FnOk wr y) {gg cap : Nat} (ho : wr'.ownsRow w.heap.size 45 3 (.slice (some ⟨gg, 0, none⟩) (ys.length + 1) cap) (ys.length + 1) (fCells ys ++ fCells1 y)) (hg : wr.grownBy wr' (sf.v ys.length).ownBlock) :
    MdX L A cp w K xs (ys ++ [y]) sc ⟨some ⟨gg, 0, none⟩, cap⟩ (wr'.setCell ⟨w.heap.size + 1 + 1, 1, none⟩ (.slice (some ⟨gg, 0, none⟩) (ys.length + 1) cap)) := by
  have k3 : TKeep [45] wr wr' := TKeep.grown h.of hg (by simp)
  have p3 := (k3 _ _ _ h.p (by simp)).trans h.p
  have r3 := (k3 _ _ _ h.r (by simp)).trans h.r
  have n3 := (k3 _ _ _ h.n (by simp)).trans h.n
  have k4 : TKeep [27] wr' (wr'.setCell ⟨w.heap.size + 1 + 1, 1, none⟩ (.slice (some ⟨gg, 0, none⟩) (ys.length + 1) cap)) := TKeep.set p3 (by simp)
  refine ⟨(Below.heap_setCell _ _ _ _ (by simp; omega)).trans r3, (k4 _ _ _ n3 (by simp)).trans n3, ?_, k4.own (by simp) (k3.own (by simp) h.oc), ?_, ?_, ?_, h.kl, (h.u.grown hg (by have := h.z; omega) (fun k hk => own_base h.of k hk)).setCell (by simp; omega) _⟩
  · have := blk_set p3 1 (.slice (some ⟨gg, 0, none⟩) (ys.length + 1) cap)
    simpa [Sl.v] using this
  · have := k4.own (by simp) ho
    simpa [Sl.v, fCells_append, fCells] using this
  · exact fun y hy => ((h.cok y hy).keep (fun _ _ => k3.rd (by simp)) (k3.rd (by simp))).keep (fun _ _ => k4.rd (by simp)) (k4.rd (by simp))
  · intro z hz
    have kk : FnOk wr z := by
      rcases List.mem_append.1 hz with hz | hz
      · exact h.fok z hz
      · rw [List.mem_singleton.1 hz]; exact hy
    exact (kk.keep (fun _ _ => k3.rd (by simp)) (fun _ => k3.rd (by simp))).keep (fun _ _ => k4.rd (by simp)) (fun _ => k4.rd (by simp))
end
theorem madeMs_le (L : List Int) (K : Nat) (h : K ≤ L.length) : ∀ k, (madeMs L K k).2 ≤ L.length
  | 0 => h
  | k + 1 => nxt_le _ _ _ (nxt_le _ _ _ (madeMs_le L K h k))
theorem results_prg2 {fn : Func} {tmps : Array Value} {W : World} {g p : Nat} {v0 v1 : Value} (hres : fn.results = #[.cell p 27]) (h2 : tmps.getD p undef = .pointer (some ⟨g, 0, none⟩))
    (hb : W.heap[g]? = some (.cells #[v0, v1] 27 (0, 0))) (h0 : v0.oneCell' = true ∧ v1.oneCell' = true) : (results fn tmps).run Tryz.prog W = .ok (.agg #[v0, v1]) W := by
  have c0 := cellB hb 0 rfl
  have c1 := cellB hb 1 rfl
  obtain ⟨k0, k1⟩ := h0
  simp at c0 c1 h2
  simp [results, hres, h2, go_sem, c0, c1, k0, k1]
end Go.Proofs.YtdkcdodkhghfhaaGreatDoor
