/- A method, and a line of a function, come to a reader. -/
import Derived.Test.YtdkcdodkhghfhaaGreatDoorI
namespace Go.Proofs.YtdkcdodkhghfhaaGreatDoor
open Go.RowKit Go.Proofs.YtdkcdodkhghfhaaGreatDoorW.PrintWords

theorem own_stored {w : World} {base e size n g cap : Nat} {xs : List Value} (h : w.ownsRow base e size (.slice (some ⟨g, 0, none⟩) n cap) n xs) (i : Nat) (_hi : i < n * size) (u : Value) :
    (w.setCell ⟨g, i, none⟩ u).ownsRow base e size (.slice (some ⟨g, 0, none⟩) n cap) n (xs.set i u) := by
  refine ⟨by rw [List.length_set]; exact h.1, .inr ?_⟩
  rcases h.2 with ⟨h1, h2⟩ | ⟨g', cap', cur, h1, h2, h3, h4, h5, h6, h7⟩
  · cases h1
  · injection h1 with e1 e2 e3
    have e1 : g = g' := by injection e1 with e1; injection e1
    subst e1 e3
    refine ⟨g, cap, cur.setIfInBounds i u, rfl, h2, blk_set h3 i u, h4, h5, by simpa using h6, ?_⟩
    rw [Array.toList_setIfInBounds, List.take_set, h7]
theorem own_head {w : World} {base e size n : Nat} {s : Sl} {xs : List Value} (h : w.ownsRow base e size (s.v n) n xs) (hn : 0 < n) : ∃ g, s.A = some ⟨g, 0, none⟩ ∧ ∃ cs, w.heap[g]? = some (.cells cs e (0, 0)) := by
  rcases h.2 with ⟨h1, h2⟩ | ⟨g', cap', cur, h1, h2, h3, _⟩
  · omega
  · injection h1 with e1 e2 e3
    exact ⟨g', e1, cur, h3⟩
theorem set_last3 (l : List Value) (a b c d : Value) (n : Nat) (hl : l.length = n * 3) : (l ++ [a, b, c]).set (n * 3 + 2) d = l ++ [a, b, d] := by
  rw [List.set_append_right _ _ (by omega), hl, show n * 3 + 2 - n * 3 = 2 from by omega]
  rfl
theorem cCells_length (l : List ClsX) : (cCells l).length = l.length * 3 := by
  induction l with
  | nil => rfl
  | cons x l ih => simp only [cCells, List.flatMap_cons, List.length_append] at *; rw [ih]; simp [cCells1]; omega
theorem fCells_length (l : List FnX) : (fCells l).length = l.length * 3 := by
  induction l with
  | nil => rfl
  | cons x l ih => simp only [fCells, List.flatMap_cons, List.length_append] at *; rw [ih]; simp [fCells1]; omega
theorem lCells_append (a b : List LnX) : lCells (a ++ b) = lCells a ++ lCells b := by simp [lCells]
theorem mCells_append (a b : List (Str × Str)) : mCells (a ++ b) = mCells a ++ mCells b := by simp [mCells]

theorem mCells_nil {l : List (Str × Str)} (h : mCells l = []) : l = [] := by
  cases l with
  | nil => rfl
  | cons x l => simp [mCells] at h
theorem rd_other {w w' : World} {e : Nat} {A : Option Addr} {cells : List Value} {row : Option Nat} (h : RdB w e A cells) (hg : w.grownBy w' row) (hne : cells ≠ [] → ∀ g off, A = some ⟨g, off, none⟩ → some g ≠ row) : RdB w' e A cells := by
  by_cases hc : cells = []
  · exact .inl hc
  · exact h.grown hg (hne hc)
/-- A method comes to the last class. -/
theorem InvX.add_method {base r : Nat} {w w3 : World} {st : St} {pre : List ClsX} {x : ClsX} {ys : List FnX} {sc sf : Sl} (I : InvX base r w st (pre ++ [x]) ys sc sf) (hcls : st.cls = true) {a b : Str} {gg cap gc : Nat}
    (hl : w.ownsRow base 52 2 (x.2.2.v x.1.methods.length) x.1.methods.length (mCells x.1.methods)) (hd : ∀ p ∈ pre, p.1.methods ≠ [] → ∀ g off, p.2.2.A = some ⟨g, off, none⟩ → some g ≠ (x.2.2.v x.1.methods.length).ownBlock)
    (ho : w3.ownsRow base 52 2 (.slice (some ⟨gg, 0, none⟩) (x.1.methods.length + 1) cap) (x.1.methods.length + 1) (mCells x.1.methods ++ [sv a, sv b])) (hg : w.grownBy w3 (x.2.2.v x.1.methods.length).ownBlock)
    (hat : (x.2.2.v x.1.methods.length).ownBlock = some gg ∨ w.heap.size ≤ gg) (hgc : sc.A = some ⟨gc, 0, none⟩) :
    InvX base r (w3.setCell ⟨gc, pre.length * 3 + 2, none⟩ (.slice (some ⟨gg, 0, none⟩) (x.1.methods.length + 1) cap)) ⟨⟨pre.map (·.1) ++ [⟨x.1.nm, x.1.fields, x.1.methods ++ [(a, b)]⟩], st.p.funcs⟩, st.inside, true⟩
      (pre ++ [(⟨x.1.nm, x.1.fields, x.1.methods ++ [(a, b)]⟩, x.2.1, ⟨some ⟨gg, 0, none⟩, cap⟩)]) ys sc sf := by
  have hlen : (pre ++ [x]).length = pre.length + 1 := by simp
  have k3 : TKeep [52] w w3 := TKeep.grown hl hg (by simp)
  have oc3 := k3.own (by simp) I.oc
  obtain ⟨gc', hgc', cs, hcs⟩ := own_head oc3 (by simp)
  have hgg : gc' = gc := by rw [hgc] at hgc'; injection hgc' with e; injection e with e1; exact e1.symm
  subst hgg
  have k4 : TKeep [50] w3 _ := TKeep.set (p := ⟨gc', pre.length * 3 + 2, none⟩) (u := .slice (some ⟨gg, 0, none⟩) (x.1.methods.length + 1) cap) hcs (by simp)
  have kk : TKeep [52, 50] w _ := TKeep.trans (fun g cs t hg ht => k3 g cs t hg (by simp at ht ⊢; exact ht.1)) (fun g cs t hg ht => k4 g cs t hg (by simp at ht ⊢; exact ht.2))
  have oth : ∀ p ∈ pre, RdB w 52 p.2.2.A (mCells p.1.methods) → RdB (w3.setCell ⟨gc', pre.length * 3 + 2, none⟩ (.slice (some ⟨gg, 0, none⟩) (x.1.methods.length + 1) cap)) 52 p.2.2.A (mCells p.1.methods) :=
    fun p hp h => k4.rd (by simp) (rd_other h hg (fun hne => hd p hp (fun e => hne (by rw [e]; rfl))))
  refine ⟨I.hr, ?_, ?_, I.hy, ?_, kk.own (by simp) I.of, ?_, fun y hy => (I.fok y hy).keep (fun _ _ => kk.rd (by simp)) (fun _ => kk.rd (by simp)), ?_, fun h => (I.lf h).keep kk (by simp) (by simp)⟩
  · have := (kk r _ 97 I.rd (by simp)).trans I.rd
    rw [this]
    simp [hcls]
  · simp
  · have e : sc.v (pre.length + 1) = .slice (some ⟨gc', 0, none⟩) (pre.length + 1) sc.cap := by simp [Sl.v, hgc]
    rw [hlen, e, cCells_append] at oc3
    have h := own_stored oc3 (pre.length * 3 + 2) (by omega) (.slice (some ⟨gg, 0, none⟩) (x.1.methods.length + 1) cap)
    rw [show cCells [x] = [sv x.1.nm, .slice x.2.1.A x.1.fields.length x.2.1.cap, .slice x.2.2.A x.1.methods.length x.2.2.cap] from by simp [cCells, cCells1], set_last3 _ _ _ _ _ _ (cCells_length pre)] at h
    rw [List.length_append, cCells_append]
    simp only [List.length_singleton]
    rw [e]
    simpa [cCells, cCells1] using h
  · intro p hp
    rcases List.mem_append.1 hp with hp | hp
    · have := I.cok p (by simp [hp])
      exact this.keep (fun _ _ => kk.rd (by simp)) (oth p hp)
    · simp at hp
      subst hp
      have := I.cok x (by simp)
      refine ⟨kk.rd (by simp) this.1, ?_⟩
      have h := RdB.of_own (k4.own (by simp) ho)
      rw [mCells_append]
      simpa [mCells] using h
  · intro _
    refine ⟨pre, _, rfl, ?_, ?_⟩
    · have h := k4.own (by simp) ho
      rw [mCells_append]
      simpa [Sl.v, mCells] using h
    · intro p hp hm g off hA
      simp only [Sl.v, Value.ownBlock]
      intro e
      have e : g = gg := by simpa using e
      subst e
      rcases hat with hat | hat
      · exact hd p hp hm g off hA hat.symm
      · rcases (I.cok p (by simp [hp])).2 with h | ⟨g', off', cs', hA', hg', _⟩
        · exact hm (mCells_nil h)
        · rw [hA] at hA'
          injection hA' with e1; injection e1 with e1
          subst e1
          have := sizeB hg'
          omega
theorem lCells_nil {l : List LnX} (h : lCells l = []) : l = [] := by
  cases l with
  | nil => rfl
  | cons x l => simp [lCells, lCells1, Ln.cells] at h
/-- A line comes to the last function. -/
theorem InvX.add_line {base r : Nat} {w w3 : World} {st : St} {pre : List FnX} {x : FnX} {xs : List ClsX} {sc sf : Sl} {zs : List LnX} (I : InvX base r w st xs (pre ++ [x]) sc sf) (hins : st.inside = true) {l : LnX} {gg cap gc : Nat}
    (hz : zs.map (·.1) = x.1.lines) (hzo : ∀ z ∈ zs, LnOk w z) (hlo : LnOk w l)
    (hl : w.ownsRow base 40 9 (x.2.2.v x.1.lines.length) x.1.lines.length (lCells zs)) (hd : ∀ p ∈ pre, p.1.lines ≠ [] → ∀ g off, p.2.2.A = some ⟨g, off, none⟩ → some g ≠ (x.2.2.v x.1.lines.length).ownBlock)
    (ho : w3.ownsRow base 40 9 (.slice (some ⟨gg, 0, none⟩) (x.1.lines.length + 1) cap) (x.1.lines.length + 1) (lCells zs ++ lCells1 l)) (hg : w.grownBy w3 (x.2.2.v x.1.lines.length).ownBlock)
    (hat : (x.2.2.v x.1.lines.length).ownBlock = some gg ∨ w.heap.size ≤ gg) (hgc : sf.A = some ⟨gc, 0, none⟩) :
    InvX base r (w3.setCell ⟨gc, pre.length * 3 + 2, none⟩ (.slice (some ⟨gg, 0, none⟩) (x.1.lines.length + 1) cap)) ⟨⟨st.p.classes, pre.map (·.1) ++ [⟨x.1.nm, x.1.params, x.1.lines ++ [l.1]⟩]⟩, true, st.cls⟩
      xs (pre ++ [(⟨x.1.nm, x.1.params, x.1.lines ++ [l.1]⟩, x.2.1, ⟨some ⟨gg, 0, none⟩, cap⟩)]) sc sf := by
  have hlen : (pre ++ [x]).length = pre.length + 1 := by simp
  have k3 : TKeep [40] w w3 := TKeep.grown hl hg (by simp)
  have oc3 := k3.own (by simp) I.of
  obtain ⟨gc', hgc', cs, hcs⟩ := own_head oc3 (by simp)
  have hgg : gc' = gc := by rw [hgc] at hgc'; injection hgc' with e; injection e with e1; exact e1.symm
  subst hgg
  have k4 : TKeep [45] w3 _ := TKeep.set (p := ⟨gc', pre.length * 3 + 2, none⟩) (u := .slice (some ⟨gg, 0, none⟩) (x.1.lines.length + 1) cap) hcs (by simp)
  have kk : TKeep [40, 45] w _ := TKeep.trans (fun g cs t hg ht => k3 g cs t hg (by simp at ht ⊢; exact ht.1)) (fun g cs t hg ht => k4 g cs t hg (by simp at ht ⊢; exact ht.2))
  have hzl : ∀ z ∈ zs ++ [l], LnOk (w3.setCell ⟨gc', pre.length * 3 + 2, none⟩ (.slice (some ⟨gg, 0, none⟩) (x.1.lines.length + 1) cap)) z := by
    intro z hz
    rcases List.mem_append.1 hz with hz | hz
    · exact (hzo z hz).keep (fun _ _ => kk.rd (by simp))
    · simp at hz; subst hz; exact hlo.keep (fun _ _ => kk.rd (by simp))
  have hzm : (zs ++ [l]).map (·.1) = x.1.lines ++ [l.1] := by simp [hz]
  refine ⟨I.hr, ?_, I.hx, ?_, kk.own (by simp) I.oc, ?_, fun y hy => (I.cok y hy).keep (fun _ _ => kk.rd (by simp)) (kk.rd (by simp)), ?_, fun h => (I.lc h).keep kk (by simp), ?_⟩
  · have := (kk r _ 97 I.rd (by simp)).trans I.rd
    rw [this]
    simp [hins]
  · simp
  · have e : sf.v (pre.length + 1) = .slice (some ⟨gc', 0, none⟩) (pre.length + 1) sf.cap := by simp [Sl.v, hgc]
    rw [hlen, e, fCells_append] at oc3
    have h := own_stored oc3 (pre.length * 3 + 2) (by omega) (.slice (some ⟨gg, 0, none⟩) (x.1.lines.length + 1) cap)
    rw [show fCells [x] = [sv x.1.nm, .slice x.2.1.A x.1.params.length x.2.1.cap, .slice x.2.2.A x.1.lines.length x.2.2.cap] from by simp [fCells, fCells1], set_last3 _ _ _ _ _ _ (fCells_length pre)] at h
    rw [List.length_append, fCells_append]
    simp only [List.length_singleton]
    rw [e]
    simpa [fCells, fCells1] using h
  · intro p hp
    rcases List.mem_append.1 hp with hp | hp
    · obtain ⟨h1, zs', h2, h3, h4⟩ := I.fok p (by simp [hp])
      refine ⟨kk.rd (by simp) h1, zs', h2, ?_, fun z hz => (h4 z hz).keep (fun _ _ => kk.rd (by simp))⟩
      exact k4.rd (by simp) (rd_other h3 hg (fun hne => hd p hp (fun e => hne (by
        rw [← h2] at e
        have : zs' = [] := by simpa using e
        rw [this]; rfl))))
    · simp at hp
      subst hp
      obtain ⟨h1, _⟩ := I.fok x (by simp)
      refine ⟨kk.rd (by simp) h1, zs ++ [l], hzm, ?_, hzl⟩
      have h := RdB.of_own (k4.own (by simp) ho)
      rw [lCells_append]
      simpa [lCells] using h
  · intro _
    refine ⟨pre, _, zs ++ [l], rfl, hzm, ?_, hzl, ?_⟩
    · have h := k4.own (by simp) ho
      rw [lCells_append]
      simpa [Sl.v, lCells] using h
    · intro p hp hm g off hA
      simp only [Sl.v, Value.ownBlock]
      intro e
      have e : g = gg := by simpa using e
      subst e
      rcases hat with hat | hat
      · exact hd p hp hm g off hA hat.symm
      · obtain ⟨_, zs', h2, h3, _⟩ := I.fok p (by simp [hp])
        rcases h3 with h | ⟨g', off', cs', hA', hg', _⟩
        · exact hm (by rw [← h2, lCells_nil h]; rfl)
        · rw [hA] at hA'
          injection hA' with e1; injection e1 with e1
          subst e1
          have := sizeB hg'
          omega
end Go.Proofs.YtdkcdodkhghfhaaGreatDoor
