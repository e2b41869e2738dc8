/- The walks of the reader's lines. -/
import Derived.Test.YtdkcdodkhghfhaaGreatDoorI2
import Derived.OwnWalk
import Derived.Deep.AppendLies
import Derived.Laws.NewBlocks
import Derived.Test.YtdkcdodkhghfhaaGreatDoorWLast
namespace Go.Proofs.YtdkcdodkhghfhaaGreatDoor
open Go.RowKit Go.Proofs.YtdkcdodkhghfhaaGreatDoorW.PrintLast Go.Proofs.YtdkcdodkhghfhaaGreatDoorW.PrintWords

def namesOk (s : Str) : Bool := (splitS 32 s).all nameS
/-- The first line of a class. -/
def classS (st : St) (s : Str) : Except Int St :=
  if st.inside = true ∨ st.p.funcs ≠ [] then .error 12
  else if namesOk s = false then .error 12
  else if st.p.classes.length < 12 ∧ (splitS 32 s).length ≤ 9 then .ok ⟨⟨st.p.classes ++ [⟨(splitS 32 s).headD [], (splitS 32 s).tail, []⟩], st.p.funcs⟩, st.inside, true⟩
  else .error 2
/-- The first line of a function. -/
def funcS (st : St) (s : Str) : Except Int St :=
  if st.inside = true then .error 12
  else if namesOk s = false then .error 12
  else if st.p.funcs.length < 24 ∧ (splitS 32 s).length ≤ 9 then .ok ⟨⟨st.p.classes, st.p.funcs ++ [⟨(splitS 32 s).headD [], (splitS 32 s).tail, []⟩]⟩, true, false⟩
  else .error 2
/-- The types of what a reader writes to. -/
def T5 : List Nat := [97, 50, 45, 52, 40]
theorem TKeep.mono {T : List Nat} {w w' : World} (h : TKeep [] w w') : TKeep T w w' := fun g cs t hg _ => h g cs t hg (by simp)
theorem TKeep.wide {T T' : List Nat} {w w' : World} (h : TKeep T w w') (hs : ∀ t ∈ T, t ∈ T') : TKeep T' w w' := fun g cs t hg ht => h g cs t hg (fun e => ht (hs t e))
theorem TKeep.alloc (T : List Nat) (w : World) (o : Obj) : TKeep T w (w.alloc o) := TKeep.mono (TKeep.below ((Below.refl _ _).alloc (Nat.le_refl _) _))
/-- What a step of a reader comes to. -/
def Came (base r : Nat) (w : World) (o : Except Int St) (e : Ending) (w' : World) : Prop :=
  Below base w w' ∧ TKeep T5 w w' ∧ match o with | .error c => e = .panicked (stopC c) | .ok st' => e = .returned (.tuple #[]) ∧ Inv base r w' st'
theorem LW.belowB {w w' : World} {B : Nat} (h : LW w) (hB : 8 ≤ B) (hb : Below B w w') : LW w' := by
  obtain ⟨m, hm⟩ := h.m
  refine ⟨⟨m, (hb.cell (p := ⟨0, 0, none⟩) (by show 0 < B; omega)).trans hm⟩, var?_below' hb (by kernel_rfl) hB h.pow, ?_, ?_, Nat.le_trans h.big hb.size⟩
  · obtain ⟨tp, p, hv⟩ := h.syn
    exact ⟨tp, p, var?_below' hb (by kernel_rfl) hB hv⟩
  · obtain ⟨tp, p, hv⟩ := h.rng
    exact ⟨tp, p, var?_below' hb (by kernel_rfl) hB hv⟩
theorem info50 : (Tryz.prog.info? 50).map (fun i => (i.zero, i.size, i.bytes)) = some (some (.agg #[.string ⟨#[]⟩, .slice none 0 0, .slice none 0 0]), 3, 64) := by kernel_rfl
theorem info45 : (Tryz.prog.info? 45).map (fun i => (i.zero, i.size, i.bytes)) = some (some (.agg #[.string ⟨#[]⟩, .slice none 0 0, .slice none 0 0]), 3, 64) := by kernel_rfl
theorem below_mono' {a b c : World} {B : Nat} (h : Below B a b) (k : Below b.heap.size b c) (hB : B ≤ a.heap.size) : Below B a c := h.trans (k.mono (Nat.le_trans hB h.size))
theorem strs_tail_far {B h : Nat} {l : List Str} (A : Option Addr) (hA : l = [] ∨ A = some ⟨h, 1, none⟩) (hB : B ≤ h) : FarA B A (strs l) := by
  rcases hA with rfl | rfl
  · exact .inl rfl
  · exact .inr fun a ha => by injection ha with ha; subst ha; exact hB
theorem strs_tail_rd {w : World} {l : List Str} {x : Str} {h : Nat} (hb : w.heap[h]? = some (.cells (strs (x :: l)).toArray 9 (0, 0))) (A : Option Addr) (hA : l = [] ∨ A = some ⟨h, 1, none⟩) : RdB w 9 A (strs l) := by
  rcases hA with hA | hA
  · subst hA; exact .inl rfl
  · refine .inr ⟨h, 1, _, hA, hb, fun j u hu => ?_⟩
    rw [Nat.add_comm]
    simpa [strs] using hu
set_option maxHeartbeats 8000000 in
set_option maxRecDepth 100000 in
theorem classLine_calls (base r : Nat) (st : St) (s : Str) (w : World) (I : Inv base r w st) (L : LW w) (hs : s.length < 40000000) (_hB : 8 ≤ base) :
    Calls Tryz.prog 112 #[.pointer (some ⟨r, 0, none⟩), .string ⟨s.toArray⟩] w (Came base r w (classS st s)) := by
  obtain ⟨xs, ys, sc, sf, I⟩ := I
  obtain ⟨⟨cs, fs⟩, ins, cl⟩ := st
  have HL := Lib.hid L
  have hxs : xs.length = cs.length := by have := congrArg List.length I.hx; simpa using this
  have hys : ys.length = fs.length := by have := congrArg List.length I.hy; simpa using this
  have hbw : base ≤ w.heap.size := by have := sizeB I.rd; have := I.hr; omega
  have IH := Lib.hid I
  have nr : ¬ r = w.heap.size := by have := sizeB I.rd; omega
  have rd := I.rd
  have hlen : (splitS 32 s).length ≤ 40000000 := by rw [splitS_length]; have := List.count_le_length (a := (32 : UInt8)) (l := s); omega
  have HX := Lib.hid hxs
  have HY := Lib.hid hys
  clear L I hxs hys
  cases ins with
  | true =>
    have HS : Hid (classS ⟨⟨cs, fs⟩, true, cl⟩ s = .error 12) := by simp [classS, Hid]
    have c0 : w.cell? ⟨r, 0, none⟩ = some (.slice sc.A xs.length sc.cap) := cellB rd 0 rfl
    have c1 : w.cell? ⟨r, 1, none⟩ = some (.slice sf.A ys.length sf.cap) := cellB rd 1 rfl
    have c2 : w.cell? ⟨r, 2, none⟩ = some (.bool true) := cellB rd 2 rfl
    have c3 : w.cell? ⟨r, 3, none⟩ = some (.bool cl) := cellB rd 3 rfl
    have f0 := frozenB rd 0
    have f1 := frozenB rd 1
    have f2 := frozenB rd 2
    have f3 := frozenB rd 3
    clear rd
    go_enter Tryz.func112, Tryz.ntmps112
    go_wp2_with (go_at_call 87; refine (need_no _ _).mono ?_; rintro e w' ⟨rfl, rfl⟩)
    refine ⟨rfl, Below.refl _ _, TKeep.refl _ _, ?_⟩
    rw [HS.out]
  | false =>
    have c0 : w.cell? ⟨r, 0, none⟩ = some (.slice sc.A xs.length sc.cap) := cellB rd 0 rfl
    have c1 : w.cell? ⟨r, 1, none⟩ = some (.slice sf.A ys.length sf.cap) := cellB rd 1 rfl
    have c2 : w.cell? ⟨r, 2, none⟩ = some (.bool false) := cellB rd 2 rfl
    have c3 : w.cell? ⟨r, 3, none⟩ = some (.bool cl) := cellB rd 3 rfl
    have f0 := frozenB rd 0
    have f1 := frozenB rd 1
    have f2 := frozenB rd 2
    have f3 := frozenB rd 3
    clear rd
    by_cases hy : ys = []
    rotate_left
    · have hy1 : ¬ (ys.length : Int) = 0 := by have := List.length_pos_iff.2 hy; omega
      have hy2 : ((ys.length : Int) == 0) = false := by simpa using hy1
      have HS : Hid (classS ⟨⟨cs, fs⟩, false, cl⟩ s = .error 12) := by
        have : fs ≠ [] := by
          intro e
          have := HY.out
          rw [e] at this
          exact hy (List.length_eq_zero_iff.1 this)
        simp [classS, this, Hid]
      clear hy hy1
      go_enter Tryz.func112, Tryz.ntmps112
      go_wp2_with (go_at_call 87; refine (need_no _ _).mono ?_; rintro e w' ⟨rfl, rfl⟩)
      refine ⟨rfl, Below.refl _ _, TKeep.refl _ _, ?_⟩
      rw [HS.out]
    have hfs : fs = [] := by
      have := HY.out
      rw [hy] at this
      exact List.length_eq_zero_iff.1 this.symm
    subst hfs hy
    cases hn : namesOk s with
    | false =>
      have HS : Hid (classS ⟨⟨cs, []⟩, false, cl⟩ s = .error 12) := by simp [classS, hn, Hid]
      have HN := Lib.hid hn
      clear hn
      go_enter Tryz.func112, Tryz.ntmps112
      go_wp2_with (first | (go_at_call 87; refine (need_ok _ _).mono ?_; rintro e w' ⟨rfl, rfl⟩) | (go_at_call 133; refine (names_no s _ HL.out hs HN.out).mono ?_; rintro e w' ⟨rfl, rfl⟩))
      refine ⟨rfl, (Below.refl _ _).alloc hbw _, TKeep.alloc _ _ _, ?_⟩
      rw [HS.out]
    | true =>
      have HN := Lib.hid hn
      clear hn
      generalize hl : splitS 32 s = l at hlen
      have HLL := Lib.hid hl
      cases l with
      | nil => exact absurd hl (splitS_ne 32 s)
      | cons x t =>
        clear hl
        by_cases hlim : xs.length < 12 ∧ (x :: t).length ≤ 9
        · have hlt : (xs.length : Int) < 12 := by omega
          have hl9 : (t.length : Int) + 1 ≤ 9 := by have := hlim.2; simp at this; omega
          have HS : Hid (classS ⟨⟨cs, []⟩, false, cl⟩ s = .ok ⟨⟨cs ++ [⟨x, t, []⟩], []⟩, false, true⟩) := by
            have h2 : cs.length < 12 ∧ (x :: t).length ≤ 9 := by rw [← HX.out]; exact hlim
            refine Lib.hid ?_
            unfold classS
            rw [if_neg (by simp), if_neg (by rw [HN.out]; simp), HLL.out, if_pos h2]
            rfl
          clear hlim
          go_enter Tryz.func112, Tryz.ntmps112
          go_wp2_with fail
          refine (need_ok _ _).mono ?_
          rintro e w' ⟨rfl, rfl⟩
          go_wp2_with fail
          refine (names_ok s _ HL.out hs HN.out).mono ?_
          rw [HLL.out]
          rintro e W ⟨rfl, hW⟩
          have rdW : W.heap[r]? = some (.cells #[sc.v xs.length, sf.v 0, .bool false, .bool cl] 97 (0, 0)) := by rw [hW]; exact (heap_alloc_old _ _ (sizeB IH.out.rd)).trans IH.out.rd
          have rowW : W.heap[w.heap.size]? = some (.cells (strs (x :: t)).toArray 9 (0, 0)) := by rw [hW]; exact heap_new _ _
          have IW : InvX base r W ⟨⟨cs, []⟩, false, cl⟩ xs [] sc sf := IH.out.keep (TKeep.below (by rw [hW]; exact (Below.refl _ _).alloc (Nat.le_refl _) _))
          have BW : Below base w W := by rw [hW]; exact (Below.refl _ _).alloc hbw _
          have zW : base ≤ W.heap.size := Nat.le_trans hbw BW.size
          have KW : Hid (TKeep T5 w W) := Lib.hid (by rw [hW]; exact TKeep.alloc _ _ _)
          have IW := Lib.hid IW
          have ROW := Lib.hid rowW
          have BW := Lib.hid BW
          clear hW c0 c1 c2 c3 f0 f1 f2 f3
          have c0 : W.cell? ⟨r, 0, none⟩ = some (.slice sc.A xs.length sc.cap) := cellB rdW 0 rfl
          have c1 : W.cell? ⟨r, 1, none⟩ = some (.slice sf.A 0 sf.cap) := cellB rdW 1 rfl
          have c2 : W.cell? ⟨r, 2, none⟩ = some (.bool false) := cellB rdW 2 rfl
          have c3 : W.cell? ⟨r, 3, none⟩ = some (.bool cl) := cellB rdW 3 rfl
          have f0 := frozenB rdW 0
          have f1 := frozenB rdW 1
          have f2 := frozenB rdW 2
          have f3 := frozenB rdW 3
          have e0 : W.cell? ⟨w.heap.size, 0, none⟩ = some (.string ⟨x.toArray⟩) := cellB rowW 0 rfl
          clear rdW rowW
          go_wp2_with fail
          refine (need_ok _ _).mono ?_
          rintro e w' ⟨rfl, rfl⟩
          go_wp2_with fail
          have eB : w.heap.size < W.heap.size := sizeB ROW.out
          have eB' : w.heap.size ≠ W.heap.size := by omega
          have eR : r < W.heap.size := sizeB IW.out.rd
          have h10 : (1 : Int) ≤ (t.length : Int) + 1 := by omega
          obtain ⟨i0, hi, hz0, hz1, hz2⟩ := info_parts info50
          refine start_ (n := 18) (S := fun w' => w'.cell? ⟨r, 0, none⟩ = some (.slice sc.A xs.length sc.cap) ∧ w'.cell? ⟨w.heap.size, 0, none⟩ = some (.string ⟨x.toArray⟩)) (ds := [17]) #[false, false, false, false, false, false, false, false, false, false, false, false, false, false, false, false, false, false] (by kernel_rfl) rfl rfl (by first | assumption | exact ⟨by assumption, by assumption⟩ | exact ⟨by assumption, by assumption, by assumption⟩) (fun hHeld => ?_)
          have hq : W.drew.heap = W.heap := rfl
          have bq : Below base W W.drew := (Below.refl _ _).drew
          generalize W.drew = V at hHeld hq bq ⊢
          have ROW : Hid (V.heap[w.heap.size]? = some (.cells (strs (x :: t)).toArray 9 (0, 0))) := Lib.hid (by rw [hq]; exact ROW.out)
          have IW : Hid (InvX base r V ⟨⟨cs, []⟩, false, cl⟩ xs [] sc sf) := Lib.hid (IW.out.keep (fun g cs t hg _ => by rw [hq]))
          have BW : Hid (Below base w V) := Lib.hid (BW.out.trans bq)
          have KW : Hid (TKeep T5 w V) := Lib.hid (KW.out.trans (fun g cs t hg _ => by rw [hq]))
          have zW : base ≤ V.heap.size := by rw [hq]; exact zW
          have eB : w.heap.size < V.heap.size := by rw [hq]; exact eB
          have eR : r < V.heap.size := by rw [hq]; exact eR
          clear hq bq
          refine pure_ (i := 0) (N := some 35) (v := ?_) (a' := ?_) #[true, false, false, false, false, false, false, false, false, false, false, false, false, false, false, false, false, false] rfl rfl (by kernel_rfl) (fun _ _ _ h => h) (Or.inl ⟨by rfl, ?_⟩) ?_ ?_
          rotate_left
          · intro w'
            go_simp
            with_reducible rfl
          rotate_left
          · simp only [Act.put, List.setIfInBounds_toArray, List.set_cons_zero, List.set_cons_succ]
            rfl
          refine pure_ (i := 1) (N := some 36) (v := ?_) (a' := ?_) #[true, true, false, false, false, false, false, false, false, false, false, false, false, false, false, false, false, false] rfl rfl (by kernel_rfl) (fun _ _ _ h => h) (Or.inl ⟨by rfl, ?_⟩) ?_ ?_
          rotate_left
          · intro w'
            go_simp
            with_reducible rfl
          rotate_left
          · simp only [Act.put, List.setIfInBounds_toArray, List.set_cons_zero, List.set_cons_succ]
            rfl
          refine pure_ (i := 2) (N := some 37) (v := ?_) (a' := ?_) #[true, true, true, false, false, false, false, false, false, false, false, false, false, false, false, false, false, false] rfl rfl (by kernel_rfl) (fun _ _ _ h => h) (Or.inl ⟨by rfl, ?_⟩) ?_ ?_
          rotate_left
          · intro w'
            go_simp
            with_reducible rfl
          rotate_left
          · simp only [Act.put, List.setIfInBounds_toArray, List.set_cons_zero, List.set_cons_succ]
            rfl
          refine pure_ (i := 3) (N := some 38) (v := ?_) (a' := ?_) #[true, true, true, true, false, false, false, false, false, false, false, false, false, false, false, false, false, false] rfl rfl (by kernel_rfl) (fun _ _ _ h => h) (Or.inl ⟨by rfl, ?_⟩) ?_ ?_
          rotate_left
          · intro w'
            go_simp
            with_reducible rfl
          rotate_left
          · simp only [Act.put, List.setIfInBounds_toArray, List.set_cons_zero, List.set_cons_succ]
            rfl
          refine pure_ (i := 4) (N := some 39) (v := ?_) (a' := ?_) #[true, true, true, true, true, false, false, false, false, false, false, false, false, false, false, false, false, false] rfl rfl (by kernel_rfl) (fun _ _ _ h => h) (Or.inl ⟨by rfl, ?_⟩) ?_ ?_
          rotate_left
          · intro w'
            go_simp
            with_reducible rfl
          rotate_left
          · simp only [Act.put, List.setIfInBounds_toArray, List.set_cons_zero, List.set_cons_succ]
            rfl
          refine take_ (i := 5) (N := some 40) (v := ?_) (a' := ?_) #[true, true, true, true, true, true, false, false, false, false, false, false, false, false, false, false, false, false] rfl rfl (by kernel_rfl) (fun _ _ _ h => h) (Or.inl ⟨by rfl, ?_⟩) hHeld ?_ ?_
          rotate_left
          · rintro w' ⟨h0, h1⟩
            go_simp
            with_reducible rfl
          rotate_left
          · simp only [Act.put, List.setIfInBounds_toArray, List.set_cons_zero, List.set_cons_succ]
            rfl
          refine pure_ (i := 6) (N := some 41) (v := ?_) (a' := ?_) #[true, true, true, true, true, true, true, false, false, false, false, false, false, false, false, false, false, false] rfl rfl (by kernel_rfl) (fun _ _ _ h => h) (Or.inl ⟨by rfl, ?_⟩) ?_ ?_
          rotate_left
          · intro w'
            go_simp
            with_reducible rfl
          rotate_left
          · simp only [Act.put, List.setIfInBounds_toArray, List.set_cons_zero, List.set_cons_succ]
            rfl
          refine pure_ (i := 7) (N := some 42) (v := ?_) (a' := ?_) #[true, true, true, true, true, true, true, true, false, false, false, false, false, false, false, false, false, false] rfl rfl (by kernel_rfl) (fun _ _ _ h => h) (Or.inl ⟨by rfl, ?_⟩) ?_ ?_
          rotate_left
          · intro w'
            go_simp
            with_reducible rfl
          rotate_left
          · simp only [Act.put, List.setIfInBounds_toArray, List.set_cons_zero, List.set_cons_succ]
            rfl
          refine take_ (i := 8) (N := some 43) (v := ?_) (a' := ?_) #[true, true, true, true, true, true, true, true, true, false, false, false, false, false, false, false, false, false] rfl rfl (by kernel_rfl) (fun _ _ _ h => h) (Or.inl ⟨by rfl, ?_⟩) hHeld ?_ ?_
          rotate_left
          · rintro w' ⟨h0, h1⟩
            go_simp
            with_reducible rfl
          rotate_left
          · simp only [Act.put, List.setIfInBounds_toArray, List.set_cons_zero, List.set_cons_succ]
            rfl
          refine pure_ (i := 9) (N := some 44) (v := ?_) (a' := ?_) #[true, true, true, true, true, true, true, true, true, true, false, false, false, false, false, false, false, false] rfl rfl (by kernel_rfl) (fun _ _ _ h => h) (Or.inl ⟨by rfl, ?_⟩) ?_ ?_
          rotate_left
          · intro w'
            go_simp
            with_reducible rfl
          rotate_left
          · simp only [Act.put, List.setIfInBounds_toArray, List.set_cons_zero, List.set_cons_succ]
            rfl
          refine pure_ (i := 10) (N := some 45) (v := ?_) (a' := ?_) #[true, true, true, true, true, true, true, true, true, true, true, false, false, false, false, false, false, false] rfl rfl (by kernel_rfl) (fun _ _ _ h => h) (Or.inl ⟨by rfl, ?_⟩) ?_ ?_
          rotate_left
          · intro w'
            go_simp
            with_reducible rfl
          rotate_left
          · simp only [Act.put, List.setIfInBounds_toArray, List.set_cons_zero, List.set_cons_succ]
            rfl
          refine pure_ (i := 11) (N := some 46) (v := ?_) (a' := ?_) #[true, true, true, true, true, true, true, true, true, true, true, true, false, false, false, false, false, false] rfl rfl (by kernel_rfl) (fun _ _ _ h => h) (Or.inl ⟨by rfl, ?_⟩) ?_ ?_
          rotate_left
          · intro w'
            go_simp
            with_reducible rfl
          rotate_left
          · simp only [Act.put, List.setIfInBounds_toArray, List.set_cons_zero, List.set_cons_succ]
            rfl
          refine one_ (i := 12) (N := some 47) #[true, true, true, true, true, true, true, true, true, true, true, true, true, false, false, false, false, false] rfl rfl (by kernel_rfl) (by simp) (fun K hK => ?_)
          refine value_ (v := .slice (some ⟨V.heap.size, 0, none⟩) 1 1) (w1 := V.alloc (.cells #[.string ⟨x.toArray⟩, .slice (if t = [] then some ⟨w.heap.size, 0, none⟩ else some ⟨w.heap.size, 1, none⟩) t.length t.length, .slice none 0 0] 50)) rfl rfl (by go_simp) ?_
          refine hK.out _ _ ⟨(World.cell?_alloc_past _ _ _ eR).trans hHeld.1, (World.cell?_alloc_past _ _ _ eB).trans hHeld.2⟩ (fun hHeld => ?_)
          refine one_ (i := 13) (N := some 48) #[true, true, true, true, true, true, true, true, true, true, true, true, true, true, false, false, false, false] rfl rfl (by kernel_rfl) (by simp) (fun K hK => ?_)
          refine step_append_lies (V.alloc (.cells #[.string ⟨x.toArray⟩, .slice (if t = [] then some ⟨w.heap.size, 0, none⟩ else some ⟨w.heap.size, 1, none⟩) t.length t.length, .slice none 0 0] 50)) (by rfl) _ _ _ (by rfl) base 50 i0 _ 3 64 Tryz.underlying24 hi hz0 hz1 hz2 rfl (by omega) (.slice sc.A xs.length sc.cap) xs.length (cCells xs) (by rfl) (IW.out.oc.alloc _) ⟨V.heap.size, 0, none⟩ 1 1 [.string ⟨x.toArray⟩, .slice (if t = [] then some ⟨w.heap.size, 0, none⟩ else some ⟨w.heap.size, 1, none⟩) t.length t.length, .slice none 0 0] (by rfl) (by rfl) (World.news_of_block (cs := #[.string ⟨x.toArray⟩, .slice (if t = [] then some ⟨w.heap.size, 0, none⟩ else some ⟨w.heap.size, 1, none⟩) t.length t.length, .slice none 0 0]) (t := 50) (fr := (0, 0)) (heap_alloc_new V _)) (by simp [Value.oneCell']) (by omega) (by unfold maxLen; omega) (by omega) (by simp; omega) (V.heap.size + 1) (by simp) ?_
          intro gg cap w3 hown3 hgrow hat hlt3
          generalize hA9 : (if t = [] then some (⟨w.heap.size, 0, none⟩ : Addr) else some (⟨w.heap.size, 1, none⟩ : Addr)) = A9 at hown3 ⊢
          have HA := Lib.hid hA9
          have KO := Lib.hid hown3
          have KG := Lib.hid hgrow
          have rd3 : w3.heap[r]? = some (.cells #[sc.v xs.length, sf.v 0, .bool false, .bool cl] 97 (0, 0)) := (hgrow.block _ (by simp; omega) (own_ne IW.out.oc IW.out.rd (by decide))).trans ((heap_alloc_old _ _ eR).trans IW.out.rd)
          have row3 : w3.heap[w.heap.size]? = some (.cells (strs (x :: t)).toArray 9 (0, 0)) := (hgrow.block _ (by simp; omega) (own_ne IW.out.oc ROW.out (by decide))).trans ((heap_alloc_old _ _ eB).trans ROW.out)
          have u0 : w3.cell? ⟨r, 0, none⟩ = some (.slice sc.A xs.length sc.cap) := cellB rd3 0 rfl
          have u9 : w3.cell? ⟨w.heap.size, 0, none⟩ = some (.string ⟨x.toArray⟩) := cellB row3 0 rfl
          have v0 := frozenB rd3 0
          have RD3 := Lib.hid rd3
          clear hown3 hgrow hat rd3 row3
          clear hA9
          change K (Act.put _ (some 48) _) w3
          refine hK.out _ _ ⟨u0, u9⟩ (fun hHeld => ?_)
          refine pure_ (i := 14) (N := some 49) (v := ?_) (a' := ?_) #[true, true, true, true, true, true, true, true, true, true, true, true, true, true, true, false, false, false] rfl rfl (by kernel_rfl) (fun _ _ _ h => h) (Or.inl ⟨by rfl, ?_⟩) ?_ ?_
          rotate_left
          · intro w'
            go_simp
            with_reducible rfl
          rotate_left
          · simp only [Act.put, List.setIfInBounds_toArray, List.set_cons_zero, List.set_cons_succ]
            rfl
          refine pure_ (i := 15) (N := some 50) (v := ?_) (a' := ?_) #[true, true, true, true, true, true, true, true, true, true, true, true, true, true, true, true, false, false] rfl rfl (by kernel_rfl) (fun _ _ _ h => h) (Or.inl ⟨by rfl, ?_⟩) ?_ ?_
          rotate_left
          · intro w'
            go_simp
            with_reducible rfl
          rotate_left
          · simp only [Act.put, List.setIfInBounds_toArray, List.set_cons_zero, List.set_cons_succ]
            rfl
          refine pure_ (i := 16) (N := some 51) (v := ?_) (a' := ?_) #[true, true, true, true, true, true, true, true, true, true, true, true, true, true, true, true, true, false] rfl rfl (by kernel_rfl) (fun _ _ _ h => h) (Or.inl ⟨by rfl, ?_⟩) ?_ ?_
          rotate_left
          · intro w'
            go_simp
            with_reducible rfl
          rotate_left
          · simp only [Act.put, List.setIfInBounds_toArray, List.set_cons_zero, List.set_cons_succ]
            rfl
          refine last_ (i := 17) (N := none) #[true, true, true, true, true, true, true, true, true, true, true, true, true, true, true, true, true, true] rfl rfl (by kernel_rfl) (by simp) (fun K hK => ?_)
          refine skip_ (w1 := w3.setCell ⟨r, 0, none⟩ (.slice (some ⟨gg, 0, none⟩) (xs.length + 1) cap)) rfl rfl (by go_simp) ?_
          refine hK.out _ _ ?_
          refine done_ (by kernel_rfl) ?_
          have z2 := frozenB RD3.out 2
          have z3 := frozenB RD3.out 3
          have y2 : w3.cell? ⟨r, 2, none⟩ = some (.bool false) := cellB RD3.out 2 rfl
          have y3 : w3.cell? ⟨r, 3, none⟩ = some (.bool cl) := cellB RD3.out 3 rfl
          go_wp2_with fail
          go_end0
          have hbr : base ≤ r := IW.out.hr
          have kg := KG.out
          rw [HA.out] at kg
          have zA := heap_new V (.cells #[.string ⟨x.toArray⟩, .slice A9 t.length t.length, .slice none 0 0] 50)
          have hrow : (V.alloc (.cells #[.string ⟨x.toArray⟩, .slice A9 t.length t.length, .slice none 0 0] 50)).heap[w.heap.size]? = some (.cells (strs (x :: t)).toArray 9 (0, 0)) := (heap_alloc_old _ _ eB).trans ROW.out
          refine ⟨?_, ?_, ?_⟩
          · exact ((((BW.out.alloc zW _).grown KG.out (by simp; omega) (own_base IW.out.oc)).setCell hbr _).setCell hbr _)
          · refine (KW.out.trans (TKeep.alloc _ _ _)).trans (((TKeep.grown (T := [50]) (IW.out.oc.alloc _) KG.out (by simp)).wide (by simp [T5])).trans (TKeep.wide (T := [97]) ?_ (by simp [T5])))
            exact (TKeep.set RD3.out (by simp)).trans (TKeep.set (blk_set RD3.out 0 _) (by simp))
          · rw [HS.out]
            refine ⟨rfl, _, _, _, _, (IW.out.keep (TKeep.below ((Below.refl _ _).alloc (Nat.le_refl _) _))).add_class (sl := ⟨A9, t.length⟩) KO.out kg (strs_tail_rd hrow A9 ?_) (strs_tail_far (h := w.heap.size) A9 ?_ (by omega))⟩
            all_goals rw [← HA.out]
            all_goals (by_cases ht : t = [])
            all_goals first | exact .inl ht | exact .inr (by rw [if_neg ht])
        · have HS : Hid (classS ⟨⟨cs, []⟩, false, cl⟩ s = .error 2) := by
            have h2 : ¬ (cs.length < 12 ∧ (x :: t).length ≤ 9) := by rw [← HX.out]; exact hlim
            refine Lib.hid ?_
            unfold classS
            rw [if_neg (by simp), if_neg (by rw [HN.out]; simp), HLL.out, if_neg h2]
          by_cases h1 : (xs.length : Int) < 12
          · have h9 : ¬ ((t.length : Int) + 1 ≤ 9) := by simp at hlim; omega
            have h9' : decide ((t.length : Int) + 1 ≤ 9) = false := decide_eq_false h9
            have h9'' : (9 : Int) < (t.length : Int) + 1 := by omega
            clear hlim h9
            go_enter Tryz.func112, Tryz.ntmps112
            go_wp2_with fail
            refine (need_ok _ _).mono ?_
            rintro e w' ⟨rfl, rfl⟩
            go_wp2_with fail
            refine (names_ok s _ HL.out hs HN.out).mono ?_
            rw [HLL.out]
            rintro e W ⟨rfl, hW⟩
            have rdW : W.heap[r]? = some (.cells #[sc.v xs.length, sf.v 0, .bool false, .bool cl] 97 (0, 0)) := by rw [hW]; exact (heap_alloc_old _ _ (sizeB IH.out.rd)).trans IH.out.rd
            have rowW : W.heap[w.heap.size]? = some (.cells (strs (x :: t)).toArray 9 (0, 0)) := by rw [hW]; exact heap_new _ _
            have IW : InvX base r W ⟨⟨cs, []⟩, false, cl⟩ xs [] sc sf := IH.out.keep (TKeep.below (by rw [hW]; exact (Below.refl _ _).alloc (Nat.le_refl _) _))
            have BW : Below base w W := by rw [hW]; exact (Below.refl _ _).alloc hbw _
            have zW : base ≤ W.heap.size := Nat.le_trans hbw BW.size
            have KW : Hid (TKeep T5 w W) := Lib.hid (by rw [hW]; exact TKeep.alloc _ _ _)
            have IW := Lib.hid IW
            have ROW := Lib.hid rowW
            have BW := Lib.hid BW
            clear hW c0 c1 c2 c3 f0 f1 f2 f3
            have c0 : W.cell? ⟨r, 0, none⟩ = some (.slice sc.A xs.length sc.cap) := cellB rdW 0 rfl
            have c1 : W.cell? ⟨r, 1, none⟩ = some (.slice sf.A 0 sf.cap) := cellB rdW 1 rfl
            have c2 : W.cell? ⟨r, 2, none⟩ = some (.bool false) := cellB rdW 2 rfl
            have c3 : W.cell? ⟨r, 3, none⟩ = some (.bool cl) := cellB rdW 3 rfl
            have f0 := frozenB rdW 0
            have f1 := frozenB rdW 1
            have f2 := frozenB rdW 2
            have f3 := frozenB rdW 3
            have e0 : W.cell? ⟨w.heap.size, 0, none⟩ = some (.string ⟨x.toArray⟩) := cellB rowW 0 rfl
            clear rdW rowW
            go_wp2_with (go_at_call 87; refine (need_no _ _).mono ?_; rintro e w' ⟨rfl, rfl⟩)
            refine ⟨rfl, BW.out, KW.out, ?_⟩
            rw [HS.out]
          · have h1' : decide ((xs.length : Int) < 12) = false := decide_eq_false h1
            have h1'' : (12 : Int) ≤ (xs.length : Int) := by omega
            clear hlim h1
            go_enter Tryz.func112, Tryz.ntmps112
            go_wp2_with fail
            refine (need_ok _ _).mono ?_
            rintro e w' ⟨rfl, rfl⟩
            go_wp2_with fail
            refine (names_ok s _ HL.out hs HN.out).mono ?_
            rw [HLL.out]
            rintro e W ⟨rfl, hW⟩
            have rdW : W.heap[r]? = some (.cells #[sc.v xs.length, sf.v 0, .bool false, .bool cl] 97 (0, 0)) := by rw [hW]; exact (heap_alloc_old _ _ (sizeB IH.out.rd)).trans IH.out.rd
            have rowW : W.heap[w.heap.size]? = some (.cells (strs (x :: t)).toArray 9 (0, 0)) := by rw [hW]; exact heap_new _ _
            have IW : InvX base r W ⟨⟨cs, []⟩, false, cl⟩ xs [] sc sf := IH.out.keep (TKeep.below (by rw [hW]; exact (Below.refl _ _).alloc (Nat.le_refl _) _))
            have BW : Below base w W := by rw [hW]; exact (Below.refl _ _).alloc hbw _
            have zW : base ≤ W.heap.size := Nat.le_trans hbw BW.size
            have KW : Hid (TKeep T5 w W) := Lib.hid (by rw [hW]; exact TKeep.alloc _ _ _)
            have IW := Lib.hid IW
            have ROW := Lib.hid rowW
            have BW := Lib.hid BW
            clear hW c0 c1 c2 c3 f0 f1 f2 f3
            have c0 : W.cell? ⟨r, 0, none⟩ = some (.slice sc.A xs.length sc.cap) := cellB rdW 0 rfl
            have c1 : W.cell? ⟨r, 1, none⟩ = some (.slice sf.A 0 sf.cap) := cellB rdW 1 rfl
            have c2 : W.cell? ⟨r, 2, none⟩ = some (.bool false) := cellB rdW 2 rfl
            have c3 : W.cell? ⟨r, 3, none⟩ = some (.bool cl) := cellB rdW 3 rfl
            have f0 := frozenB rdW 0
            have f1 := frozenB rdW 1
            have f2 := frozenB rdW 2
            have f3 := frozenB rdW 3
            have e0 : W.cell? ⟨w.heap.size, 0, none⟩ = some (.string ⟨x.toArray⟩) := cellB rowW 0 rfl
            clear rdW rowW
            go_wp2_with (go_at_call 87; refine (need_no _ _).mono ?_; rintro e w' ⟨rfl, rfl⟩)
            refine ⟨rfl, BW.out, KW.out, ?_⟩
            rw [HS.out]
set_option maxHeartbeats 8000000 in
set_option maxRecDepth 100000 in
theorem funcLine_calls (base r : Nat) (st : St) (s : Str) (w : World) (I : Inv base r w st) (L : LW w) (hs : s.length < 40000000) (_hB : 8 ≤ base) :
    Calls Tryz.prog 114 #[.pointer (some ⟨r, 0, none⟩), .string ⟨s.toArray⟩] w (Came base r w (funcS st s)) := by
  obtain ⟨xs, ys, sc, sf, I⟩ := I
  obtain ⟨⟨cs, fs⟩, ins, cl⟩ := st
  have HL := Lib.hid L
  have hxs : xs.length = cs.length := by have := congrArg List.length I.hx; simpa using this
  have hys : ys.length = fs.length := by have := congrArg List.length I.hy; simpa using this
  have hbw : base ≤ w.heap.size := by have := sizeB I.rd; have := I.hr; omega
  have IH := Lib.hid I
  have nr : ¬ r = w.heap.size := by have := sizeB I.rd; omega
  have rd := I.rd
  have hlen : (splitS 32 s).length ≤ 40000000 := by rw [splitS_length]; have := List.count_le_length (a := (32 : UInt8)) (l := s); omega
  have HX := Lib.hid hxs
  have HY := Lib.hid hys
  clear L I hxs hys
  cases ins with
  | true =>
    have HS : Hid (funcS ⟨⟨cs, fs⟩, true, cl⟩ s = .error 12) := by simp [funcS, Hid]
    have c0 : w.cell? ⟨r, 0, none⟩ = some (.slice sc.A xs.length sc.cap) := cellB rd 0 rfl
    have c1 : w.cell? ⟨r, 1, none⟩ = some (.slice sf.A ys.length sf.cap) := cellB rd 1 rfl
    have c2 : w.cell? ⟨r, 2, none⟩ = some (.bool true) := cellB rd 2 rfl
    have c3 : w.cell? ⟨r, 3, none⟩ = some (.bool cl) := cellB rd 3 rfl
    have f0 := frozenB rd 0
    have f1 := frozenB rd 1
    have f2 := frozenB rd 2
    have f3 := frozenB rd 3
    clear rd
    go_enter Tryz.func114, Tryz.ntmps114
    go_wp2_with (go_at_call 87; refine (need_no _ _).mono ?_; rintro e w' ⟨rfl, rfl⟩)
    refine ⟨rfl, Below.refl _ _, TKeep.refl _ _, ?_⟩
    rw [HS.out]
  | false =>
    have c0 : w.cell? ⟨r, 0, none⟩ = some (.slice sc.A xs.length sc.cap) := cellB rd 0 rfl
    have c1 : w.cell? ⟨r, 1, none⟩ = some (.slice sf.A ys.length sf.cap) := cellB rd 1 rfl
    have c2 : w.cell? ⟨r, 2, none⟩ = some (.bool false) := cellB rd 2 rfl
    have c3 : w.cell? ⟨r, 3, none⟩ = some (.bool cl) := cellB rd 3 rfl
    have f0 := frozenB rd 0
    have f1 := frozenB rd 1
    have f2 := frozenB rd 2
    have f3 := frozenB rd 3
    clear rd
    cases hn : namesOk s with
    | false =>
      have HS : Hid (funcS ⟨⟨cs, fs⟩, false, cl⟩ s = .error 12) := by simp [funcS, hn, Hid]
      have HN := Lib.hid hn
      clear hn
      go_enter Tryz.func114, Tryz.ntmps114
      go_wp2_with (first | (go_at_call 87; refine (need_ok _ _).mono ?_; rintro e w' ⟨rfl, rfl⟩) | (go_at_call 133; refine (names_no s _ HL.out hs HN.out).mono ?_; rintro e w' ⟨rfl, rfl⟩))
      refine ⟨rfl, (Below.refl _ _).alloc hbw _, TKeep.alloc _ _ _, ?_⟩
      rw [HS.out]
    | true =>
      have HN := Lib.hid hn
      clear hn
      generalize hl : splitS 32 s = l at hlen
      have HLL := Lib.hid hl
      cases l with
      | nil => exact absurd hl (splitS_ne 32 s)
      | cons x t =>
        clear hl
        by_cases hlim : ys.length < 24 ∧ (x :: t).length ≤ 9
        · have hlt : (ys.length : Int) < 24 := by omega
          have hl9 : (t.length : Int) + 1 ≤ 9 := by have := hlim.2; simp at this; omega
          have HS : Hid (funcS ⟨⟨cs, fs⟩, false, cl⟩ s = .ok ⟨⟨cs, fs ++ [⟨x, t, []⟩]⟩, true, false⟩) := by
            have h2 : fs.length < 24 ∧ (x :: t).length ≤ 9 := by rw [← HY.out]; exact hlim
            refine Lib.hid ?_
            unfold funcS
            rw [if_neg (by simp), if_neg (by rw [HN.out]; simp), HLL.out, if_pos h2]
            rfl
          clear hlim
          go_enter Tryz.func114, Tryz.ntmps114
          go_wp2_with fail
          refine (need_ok _ _).mono ?_
          rintro e w' ⟨rfl, rfl⟩
          go_wp2_with fail
          refine (names_ok s _ HL.out hs HN.out).mono ?_
          rw [HLL.out]
          rintro e W ⟨rfl, hW⟩
          have rdW : W.heap[r]? = some (.cells #[sc.v xs.length, sf.v ys.length, .bool false, .bool cl] 97 (0, 0)) := by rw [hW]; exact (heap_alloc_old _ _ (sizeB IH.out.rd)).trans IH.out.rd
          have rowW : W.heap[w.heap.size]? = some (.cells (strs (x :: t)).toArray 9 (0, 0)) := by rw [hW]; exact heap_new _ _
          have IW : InvX base r W ⟨⟨cs, fs⟩, false, cl⟩ xs ys sc sf := IH.out.keep (TKeep.below (by rw [hW]; exact (Below.refl _ _).alloc (Nat.le_refl _) _))
          have BW : Below base w W := by rw [hW]; exact (Below.refl _ _).alloc hbw _
          have zW : base ≤ W.heap.size := Nat.le_trans hbw BW.size
          have KW : Hid (TKeep T5 w W) := Lib.hid (by rw [hW]; exact TKeep.alloc _ _ _)
          have IW := Lib.hid IW
          have ROW := Lib.hid rowW
          have BW := Lib.hid BW
          clear hW c0 c1 c2 c3 f0 f1 f2 f3
          have c0 : W.cell? ⟨r, 0, none⟩ = some (.slice sc.A xs.length sc.cap) := cellB rdW 0 rfl
          have c1 : W.cell? ⟨r, 1, none⟩ = some (.slice sf.A ys.length sf.cap) := cellB rdW 1 rfl
          have c2 : W.cell? ⟨r, 2, none⟩ = some (.bool false) := cellB rdW 2 rfl
          have c3 : W.cell? ⟨r, 3, none⟩ = some (.bool cl) := cellB rdW 3 rfl
          have f0 := frozenB rdW 0
          have f1 := frozenB rdW 1
          have f2 := frozenB rdW 2
          have f3 := frozenB rdW 3
          have e0 : W.cell? ⟨w.heap.size, 0, none⟩ = some (.string ⟨x.toArray⟩) := cellB rowW 0 rfl
          clear rdW rowW
          go_wp2_with fail
          refine (need_ok _ _).mono ?_
          rintro e w' ⟨rfl, rfl⟩
          go_wp2_with fail
          have eB : w.heap.size < W.heap.size := sizeB ROW.out
          have eB' : w.heap.size ≠ W.heap.size := by omega
          have eR : r < W.heap.size := sizeB IW.out.rd
          have h10 : (1 : Int) ≤ (t.length : Int) + 1 := by omega
          obtain ⟨i0, hi, hz0, hz1, hz2⟩ := info_parts info45
          refine start_ (n := 18) (S := fun w' => w'.cell? ⟨r, 1, none⟩ = some (.slice sf.A ys.length sf.cap) ∧ w'.cell? ⟨w.heap.size, 0, none⟩ = some (.string ⟨x.toArray⟩)) (ds := [17]) #[false, false, false, false, false, false, false, false, false, false, false, false, false, false, false, false, false, false] (by kernel_rfl) rfl rfl (by first | assumption | exact ⟨by assumption, by assumption⟩ | exact ⟨by assumption, by assumption, by assumption⟩) (fun hHeld => ?_)
          have hq : W.drew.heap = W.heap := rfl
          have bq : Below base W W.drew := (Below.refl _ _).drew
          generalize W.drew = V at hHeld hq bq ⊢
          have ROW : Hid (V.heap[w.heap.size]? = some (.cells (strs (x :: t)).toArray 9 (0, 0))) := Lib.hid (by rw [hq]; exact ROW.out)
          have IW : Hid (InvX base r V ⟨⟨cs, fs⟩, false, cl⟩ xs ys sc sf) := Lib.hid (IW.out.keep (fun g cs t hg _ => by rw [hq]))
          have BW : Hid (Below base w V) := Lib.hid (BW.out.trans bq)
          have KW : Hid (TKeep T5 w V) := Lib.hid (KW.out.trans (fun g cs t hg _ => by rw [hq]))
          have zW : base ≤ V.heap.size := by rw [hq]; exact zW
          have eB : w.heap.size < V.heap.size := by rw [hq]; exact eB
          have eR : r < V.heap.size := by rw [hq]; exact eR
          clear hq bq
          refine pure_ (i := 0) (N := some 26) (v := ?_) (a' := ?_) #[true, false, false, false, false, false, false, false, false, false, false, false, false, false, false, false, false, false] rfl rfl (by kernel_rfl) (fun _ _ _ h => h) (Or.inl ⟨by rfl, ?_⟩) ?_ ?_
          rotate_left
          · intro w'
            go_simp
            with_reducible rfl
          rotate_left
          · simp only [Act.put, List.setIfInBounds_toArray, List.set_cons_zero, List.set_cons_succ]
            rfl
          refine pure_ (i := 1) (N := some 27) (v := ?_) (a' := ?_) #[true, true, false, false, false, false, false, false, false, false, false, false, false, false, false, false, false, false] rfl rfl (by kernel_rfl) (fun _ _ _ h => h) (Or.inl ⟨by rfl, ?_⟩) ?_ ?_
          rotate_left
          · intro w'
            go_simp
            with_reducible rfl
          rotate_left
          · simp only [Act.put, List.setIfInBounds_toArray, List.set_cons_zero, List.set_cons_succ]
            rfl
          refine pure_ (i := 2) (N := some 28) (v := ?_) (a' := ?_) #[true, true, true, false, false, false, false, false, false, false, false, false, false, false, false, false, false, false] rfl rfl (by kernel_rfl) (fun _ _ _ h => h) (Or.inl ⟨by rfl, ?_⟩) ?_ ?_
          rotate_left
          · intro w'
            go_simp
            with_reducible rfl
          rotate_left
          · simp only [Act.put, List.setIfInBounds_toArray, List.set_cons_zero, List.set_cons_succ]
            rfl
          refine pure_ (i := 3) (N := some 29) (v := ?_) (a' := ?_) #[true, true, true, true, false, false, false, false, false, false, false, false, false, false, false, false, false, false] rfl rfl (by kernel_rfl) (fun _ _ _ h => h) (Or.inl ⟨by rfl, ?_⟩) ?_ ?_
          rotate_left
          · intro w'
            go_simp
            with_reducible rfl
          rotate_left
          · simp only [Act.put, List.setIfInBounds_toArray, List.set_cons_zero, List.set_cons_succ]
            rfl
          refine pure_ (i := 4) (N := some 30) (v := ?_) (a' := ?_) #[true, true, true, true, true, false, false, false, false, false, false, false, false, false, false, false, false, false] rfl rfl (by kernel_rfl) (fun _ _ _ h => h) (Or.inl ⟨by rfl, ?_⟩) ?_ ?_
          rotate_left
          · intro w'
            go_simp
            with_reducible rfl
          rotate_left
          · simp only [Act.put, List.setIfInBounds_toArray, List.set_cons_zero, List.set_cons_succ]
            rfl
          refine take_ (i := 5) (N := some 31) (v := ?_) (a' := ?_) #[true, true, true, true, true, true, false, false, false, false, false, false, false, false, false, false, false, false] rfl rfl (by kernel_rfl) (fun _ _ _ h => h) (Or.inl ⟨by rfl, ?_⟩) hHeld ?_ ?_
          rotate_left
          · rintro w' ⟨h0, h1⟩
            go_simp
            with_reducible rfl
          rotate_left
          · simp only [Act.put, List.setIfInBounds_toArray, List.set_cons_zero, List.set_cons_succ]
            rfl
          refine pure_ (i := 6) (N := some 32) (v := ?_) (a' := ?_) #[true, true, true, true, true, true, true, false, false, false, false, false, false, false, false, false, false, false] rfl rfl (by kernel_rfl) (fun _ _ _ h => h) (Or.inl ⟨by rfl, ?_⟩) ?_ ?_
          rotate_left
          · intro w'
            go_simp
            with_reducible rfl
          rotate_left
          · simp only [Act.put, List.setIfInBounds_toArray, List.set_cons_zero, List.set_cons_succ]
            rfl
          refine pure_ (i := 7) (N := some 33) (v := ?_) (a' := ?_) #[true, true, true, true, true, true, true, true, false, false, false, false, false, false, false, false, false, false] rfl rfl (by kernel_rfl) (fun _ _ _ h => h) (Or.inl ⟨by rfl, ?_⟩) ?_ ?_
          rotate_left
          · intro w'
            go_simp
            with_reducible rfl
          rotate_left
          · simp only [Act.put, List.setIfInBounds_toArray, List.set_cons_zero, List.set_cons_succ]
            rfl
          refine take_ (i := 8) (N := some 34) (v := ?_) (a' := ?_) #[true, true, true, true, true, true, true, true, true, false, false, false, false, false, false, false, false, false] rfl rfl (by kernel_rfl) (fun _ _ _ h => h) (Or.inl ⟨by rfl, ?_⟩) hHeld ?_ ?_
          rotate_left
          · rintro w' ⟨h0, h1⟩
            go_simp
            with_reducible rfl
          rotate_left
          · simp only [Act.put, List.setIfInBounds_toArray, List.set_cons_zero, List.set_cons_succ]
            rfl
          refine pure_ (i := 9) (N := some 35) (v := ?_) (a' := ?_) #[true, true, true, true, true, true, true, true, true, true, false, false, false, false, false, false, false, false] rfl rfl (by kernel_rfl) (fun _ _ _ h => h) (Or.inl ⟨by rfl, ?_⟩) ?_ ?_
          rotate_left
          · intro w'
            go_simp
            with_reducible rfl
          rotate_left
          · simp only [Act.put, List.setIfInBounds_toArray, List.set_cons_zero, List.set_cons_succ]
            rfl
          refine pure_ (i := 10) (N := some 36) (v := ?_) (a' := ?_) #[true, true, true, true, true, true, true, true, true, true, true, false, false, false, false, false, false, false] rfl rfl (by kernel_rfl) (fun _ _ _ h => h) (Or.inl ⟨by rfl, ?_⟩) ?_ ?_
          rotate_left
          · intro w'
            go_simp
            with_reducible rfl
          rotate_left
          · simp only [Act.put, List.setIfInBounds_toArray, List.set_cons_zero, List.set_cons_succ]
            rfl
          refine pure_ (i := 11) (N := some 37) (v := ?_) (a' := ?_) #[true, true, true, true, true, true, true, true, true, true, true, true, false, false, false, false, false, false] rfl rfl (by kernel_rfl) (fun _ _ _ h => h) (Or.inl ⟨by rfl, ?_⟩) ?_ ?_
          rotate_left
          · intro w'
            go_simp
            with_reducible rfl
          rotate_left
          · simp only [Act.put, List.setIfInBounds_toArray, List.set_cons_zero, List.set_cons_succ]
            rfl
          refine one_ (i := 12) (N := some 38) #[true, true, true, true, true, true, true, true, true, true, true, true, true, false, false, false, false, false] rfl rfl (by kernel_rfl) (by simp) (fun K hK => ?_)
          refine value_ (v := .slice (some ⟨V.heap.size, 0, none⟩) 1 1) (w1 := V.alloc (.cells #[.string ⟨x.toArray⟩, .slice (if t = [] then some ⟨w.heap.size, 0, none⟩ else some ⟨w.heap.size, 1, none⟩) t.length t.length, .slice none 0 0] 45)) rfl rfl (by go_simp) ?_
          refine hK.out _ _ ⟨(World.cell?_alloc_past _ _ _ eR).trans hHeld.1, (World.cell?_alloc_past _ _ _ eB).trans hHeld.2⟩ (fun hHeld => ?_)
          refine one_ (i := 13) (N := some 39) #[true, true, true, true, true, true, true, true, true, true, true, true, true, true, false, false, false, false] rfl rfl (by kernel_rfl) (by simp) (fun K hK => ?_)
          refine step_append_lies (V.alloc (.cells #[.string ⟨x.toArray⟩, .slice (if t = [] then some ⟨w.heap.size, 0, none⟩ else some ⟨w.heap.size, 1, none⟩) t.length t.length, .slice none 0 0] 45)) (by rfl) _ _ _ (by rfl) base 45 i0 _ 3 64 Tryz.underlying25 hi hz0 hz1 hz2 rfl (by omega) (.slice sf.A ys.length sf.cap) ys.length (fCells ys) (by rfl) (IW.out.of.alloc _) ⟨V.heap.size, 0, none⟩ 1 1 [.string ⟨x.toArray⟩, .slice (if t = [] then some ⟨w.heap.size, 0, none⟩ else some ⟨w.heap.size, 1, none⟩) t.length t.length, .slice none 0 0] (by rfl) (by rfl) (World.news_of_block (cs := #[.string ⟨x.toArray⟩, .slice (if t = [] then some ⟨w.heap.size, 0, none⟩ else some ⟨w.heap.size, 1, none⟩) t.length t.length, .slice none 0 0]) (t := 45) (fr := (0, 0)) (heap_alloc_new V _)) (by simp [Value.oneCell']) (by omega) (by unfold maxLen; omega) (by omega) (by simp; omega) (V.heap.size + 1) (by simp) ?_
          intro gg cap w3 hown3 hgrow hat hlt3
          generalize hA9 : (if t = [] then some (⟨w.heap.size, 0, none⟩ : Addr) else some (⟨w.heap.size, 1, none⟩ : Addr)) = A9 at hown3 ⊢
          have HA := Lib.hid hA9
          have KO := Lib.hid hown3
          have KG := Lib.hid hgrow
          have rd3 : w3.heap[r]? = some (.cells #[sc.v xs.length, sf.v ys.length, .bool false, .bool cl] 97 (0, 0)) := (hgrow.block _ (by simp; omega) (own_ne IW.out.of IW.out.rd (by decide))).trans ((heap_alloc_old _ _ eR).trans IW.out.rd)
          have row3 : w3.heap[w.heap.size]? = some (.cells (strs (x :: t)).toArray 9 (0, 0)) := (hgrow.block _ (by simp; omega) (own_ne IW.out.of ROW.out (by decide))).trans ((heap_alloc_old _ _ eB).trans ROW.out)
          have u1 : w3.cell? ⟨r, 1, none⟩ = some (.slice sf.A ys.length sf.cap) := cellB rd3 1 rfl
          have u9 : w3.cell? ⟨w.heap.size, 0, none⟩ = some (.string ⟨x.toArray⟩) := cellB row3 0 rfl
          have v1 := frozenB rd3 1
          have RD3 := Lib.hid rd3
          clear hown3 hgrow hat rd3 row3
          clear hA9
          change K (Act.put _ (some 39) _) w3
          refine hK.out _ _ ⟨u1, u9⟩ (fun hHeld => ?_)
          refine pure_ (i := 14) (N := some 40) (v := ?_) (a' := ?_) #[true, true, true, true, true, true, true, true, true, true, true, true, true, true, true, false, false, false] rfl rfl (by kernel_rfl) (fun _ _ _ h => h) (Or.inl ⟨by rfl, ?_⟩) ?_ ?_
          rotate_left
          · intro w'
            go_simp
            with_reducible rfl
          rotate_left
          · simp only [Act.put, List.setIfInBounds_toArray, List.set_cons_zero, List.set_cons_succ]
            rfl
          refine pure_ (i := 15) (N := some 41) (v := ?_) (a' := ?_) #[true, true, true, true, true, true, true, true, true, true, true, true, true, true, true, true, false, false] rfl rfl (by kernel_rfl) (fun _ _ _ h => h) (Or.inl ⟨by rfl, ?_⟩) ?_ ?_
          rotate_left
          · intro w'
            go_simp
            with_reducible rfl
          rotate_left
          · simp only [Act.put, List.setIfInBounds_toArray, List.set_cons_zero, List.set_cons_succ]
            rfl
          refine pure_ (i := 16) (N := some 42) (v := ?_) (a' := ?_) #[true, true, true, true, true, true, true, true, true, true, true, true, true, true, true, true, true, false] rfl rfl (by kernel_rfl) (fun _ _ _ h => h) (Or.inl ⟨by rfl, ?_⟩) ?_ ?_
          rotate_left
          · intro w'
            go_simp
            with_reducible rfl
          rotate_left
          · simp only [Act.put, List.setIfInBounds_toArray, List.set_cons_zero, List.set_cons_succ]
            rfl
          refine last_ (i := 17) (N := none) #[true, true, true, true, true, true, true, true, true, true, true, true, true, true, true, true, true, true] rfl rfl (by kernel_rfl) (by simp) (fun K hK => ?_)
          refine skip_ (w1 := w3.setCell ⟨r, 1, none⟩ (.slice (some ⟨gg, 0, none⟩) (ys.length + 1) cap)) rfl rfl (by go_simp) ?_
          refine hK.out _ _ ?_
          refine done_ (by kernel_rfl) ?_
          have z2 := frozenB RD3.out 2
          have z3 := frozenB RD3.out 3
          have y2 : w3.cell? ⟨r, 2, none⟩ = some (.bool false) := cellB RD3.out 2 rfl
          have y3 : w3.cell? ⟨r, 3, none⟩ = some (.bool cl) := cellB RD3.out 3 rfl
          go_wp2_with fail
          go_end0
          have hbr : base ≤ r := IW.out.hr
          have kg := KG.out
          rw [HA.out] at kg
          have zA := heap_new V (.cells #[.string ⟨x.toArray⟩, .slice A9 t.length t.length, .slice none 0 0] 45)
          have hrow : (V.alloc (.cells #[.string ⟨x.toArray⟩, .slice A9 t.length t.length, .slice none 0 0] 45)).heap[w.heap.size]? = some (.cells (strs (x :: t)).toArray 9 (0, 0)) := (heap_alloc_old _ _ eB).trans ROW.out
          refine ⟨?_, ?_, ?_⟩
          · exact (((((BW.out.alloc zW _).grown KG.out (by simp; omega) (own_base IW.out.of)).setCell hbr _).setCell hbr _).setCell hbr _)
          · refine (KW.out.trans (TKeep.alloc _ _ _)).trans (((TKeep.grown (T := [45]) (IW.out.of.alloc _) KG.out (by simp)).wide (by simp [T5])).trans (TKeep.wide (T := [97]) ?_ (by simp [T5])))
            exact ((TKeep.set RD3.out (by simp)).trans (TKeep.set (blk_set RD3.out 1 _) (by simp))).trans (TKeep.set (blk_set (blk_set RD3.out 1 _) 2 _) (by simp))
          · rw [HS.out]
            refine ⟨rfl, _, _, _, _, (IW.out.keep (TKeep.below ((Below.refl _ _).alloc (Nat.le_refl _) _))).add_func (sl := ⟨A9, t.length⟩) KO.out kg (strs_tail_rd hrow A9 ?_) (strs_tail_far (h := w.heap.size) A9 ?_ (by omega))⟩
            all_goals rw [← HA.out]
            all_goals (by_cases ht : t = [])
            all_goals first | exact .inl ht | exact .inr (by rw [if_neg ht])
        · have HS : Hid (funcS ⟨⟨cs, fs⟩, false, cl⟩ s = .error 2) := by
            have h2 : ¬ (fs.length < 24 ∧ (x :: t).length ≤ 9) := by rw [← HY.out]; exact hlim
            refine Lib.hid ?_
            unfold funcS
            rw [if_neg (by simp), if_neg (by rw [HN.out]; simp), HLL.out, if_neg h2]
          by_cases h1 : (ys.length : Int) < 24
          · have h9 : ¬ ((t.length : Int) + 1 ≤ 9) := by simp at hlim; omega
            have h9' : decide ((t.length : Int) + 1 ≤ 9) = false := decide_eq_false h9
            have h9'' : (9 : Int) < (t.length : Int) + 1 := by omega
            clear hlim h9
            go_enter Tryz.func114, Tryz.ntmps114
            go_wp2_with fail
            refine (need_ok _ _).mono ?_
            rintro e w' ⟨rfl, rfl⟩
            go_wp2_with fail
            refine (names_ok s _ HL.out hs HN.out).mono ?_
            rw [HLL.out]
            rintro e W ⟨rfl, hW⟩
            have rdW : W.heap[r]? = some (.cells #[sc.v xs.length, sf.v ys.length, .bool false, .bool cl] 97 (0, 0)) := by rw [hW]; exact (heap_alloc_old _ _ (sizeB IH.out.rd)).trans IH.out.rd
            have rowW : W.heap[w.heap.size]? = some (.cells (strs (x :: t)).toArray 9 (0, 0)) := by rw [hW]; exact heap_new _ _
            have IW : InvX base r W ⟨⟨cs, fs⟩, false, cl⟩ xs ys sc sf := IH.out.keep (TKeep.below (by rw [hW]; exact (Below.refl _ _).alloc (Nat.le_refl _) _))
            have BW : Below base w W := by rw [hW]; exact (Below.refl _ _).alloc hbw _
            have zW : base ≤ W.heap.size := Nat.le_trans hbw BW.size
            have KW : Hid (TKeep T5 w W) := Lib.hid (by rw [hW]; exact TKeep.alloc _ _ _)
            have IW := Lib.hid IW
            have ROW := Lib.hid rowW
            have BW := Lib.hid BW
            clear hW c0 c1 c2 c3 f0 f1 f2 f3
            have c0 : W.cell? ⟨r, 0, none⟩ = some (.slice sc.A xs.length sc.cap) := cellB rdW 0 rfl
            have c1 : W.cell? ⟨r, 1, none⟩ = some (.slice sf.A ys.length sf.cap) := cellB rdW 1 rfl
            have c2 : W.cell? ⟨r, 2, none⟩ = some (.bool false) := cellB rdW 2 rfl
            have c3 : W.cell? ⟨r, 3, none⟩ = some (.bool cl) := cellB rdW 3 rfl
            have f0 := frozenB rdW 0
            have f1 := frozenB rdW 1
            have f2 := frozenB rdW 2
            have f3 := frozenB rdW 3
            have e0 : W.cell? ⟨w.heap.size, 0, none⟩ = some (.string ⟨x.toArray⟩) := cellB rowW 0 rfl
            clear rdW rowW
            go_wp2_with (go_at_call 87; refine (need_no _ _).mono ?_; rintro e w' ⟨rfl, rfl⟩)
            refine ⟨rfl, BW.out, KW.out, ?_⟩
            rw [HS.out]
          · have h1' : decide ((ys.length : Int) < 24) = false := decide_eq_false h1
            have h1'' : (24 : Int) ≤ (ys.length : Int) := by omega
            clear hlim h1
            go_enter Tryz.func114, Tryz.ntmps114
            go_wp2_with fail
            refine (need_ok _ _).mono ?_
            rintro e w' ⟨rfl, rfl⟩
            go_wp2_with fail
            refine (names_ok s _ HL.out hs HN.out).mono ?_
            rw [HLL.out]
            rintro e W ⟨rfl, hW⟩
            have rdW : W.heap[r]? = some (.cells #[sc.v xs.length, sf.v ys.length, .bool false, .bool cl] 97 (0, 0)) := by rw [hW]; exact (heap_alloc_old _ _ (sizeB IH.out.rd)).trans IH.out.rd
            have rowW : W.heap[w.heap.size]? = some (.cells (strs (x :: t)).toArray 9 (0, 0)) := by rw [hW]; exact heap_new _ _
            have IW : InvX base r W ⟨⟨cs, fs⟩, false, cl⟩ xs ys sc sf := IH.out.keep (TKeep.below (by rw [hW]; exact (Below.refl _ _).alloc (Nat.le_refl _) _))
            have BW : Below base w W := by rw [hW]; exact (Below.refl _ _).alloc hbw _
            have zW : base ≤ W.heap.size := Nat.le_trans hbw BW.size
            have KW : Hid (TKeep T5 w W) := Lib.hid (by rw [hW]; exact TKeep.alloc _ _ _)
            have IW := Lib.hid IW
            have ROW := Lib.hid rowW
            have BW := Lib.hid BW
            clear hW c0 c1 c2 c3 f0 f1 f2 f3
            have c0 : W.cell? ⟨r, 0, none⟩ = some (.slice sc.A xs.length sc.cap) := cellB rdW 0 rfl
            have c1 : W.cell? ⟨r, 1, none⟩ = some (.slice sf.A ys.length sf.cap) := cellB rdW 1 rfl
            have c2 : W.cell? ⟨r, 2, none⟩ = some (.bool false) := cellB rdW 2 rfl
            have c3 : W.cell? ⟨r, 3, none⟩ = some (.bool cl) := cellB rdW 3 rfl
            have f0 := frozenB rdW 0
            have f1 := frozenB rdW 1
            have f2 := frozenB rdW 2
            have f3 := frozenB rdW 3
            have e0 : W.cell? ⟨w.heap.size, 0, none⟩ = some (.string ⟨x.toArray⟩) := cellB rowW 0 rfl
            clear rdW rowW
            go_wp2_with (go_at_call 87; refine (need_no _ _).mono ?_; rintro e w' ⟨rfl, rfl⟩)
            refine ⟨rfl, BW.out, KW.out, ?_⟩
            rw [HS.out]
end Go.Proofs.YtdkcdodkhghfhaaGreatDoor
