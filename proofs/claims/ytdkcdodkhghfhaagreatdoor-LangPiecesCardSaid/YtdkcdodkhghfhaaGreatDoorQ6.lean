import Derived.Test.YtdkcdodkhghfhaaGreatDoorRWD
import Derived.Test.YtdkcdodkhghfhaaGreatDoorQ5
/- Plain: programs made of numbers are right, and not long. -/
namespace Go.Proofs.YtdkcdodkhghfhaaGreatDoor
open Go

def madeMs (L : List Int) (K : Nat) : Nat → List (Str × Str) × Nat
  | 0 => ([], K)
  | k + 1 => ((madeMs L K k).1 ++ [(wordN (nxtS L (madeMs L K k).2 8).1, wordN (nxtS L (nxtS L (madeMs L K k).2 8).2 8).1)], (nxtS L (nxtS L (madeMs L K k).2 8).2 8).2)
def madeC (L : List Int) (K : Nat) : Cls × Nat :=
  let r := nxtS L K 8
  let ws := wordsC L r.2 4
  let n := nxtS L ws.2 3
  let ms := madeMs L n.2 n.1.toNat
  (⟨wordN r.1, ws.1, ms.1⟩, ms.2)
def madeCs (L : List Int) (K : Nat) : Nat → List Cls × Nat
  | 0 => ([], K)
  | k + 1 => ((madeCs L K k).1 ++ [(madeC L (madeCs L K k).2).1], (madeC L (madeCs L K k).2).2)
def madeLs (L : List Int) (K : Nat) : Nat → List Ln × Nat
  | 0 => ([], K)
  | k + 1 => ((madeLs L K k).1 ++ [(mLine L (madeLs L K k).2).1], (mLine L (madeLs L K k).2).2)
def madeF (L : List Int) (K : Nat) : Fn × Nat :=
  let r := nxtS L K 8
  let ws := wordsC L r.2 3
  let n := nxtS L ws.2 13
  let ls := madeLs L n.2 n.1.toNat
  (⟨wordN r.1, ws.1, ls.1⟩, ls.2)
def madeFs (L : List Int) (K : Nat) : Nat → List Fn × Nat
  | 0 => ([], K)
  | k + 1 => ((madeFs L K k).1 ++ [(madeF L (madeFs L K k).2).1], (madeF L (madeFs L K k).2).2)
/-- The program that is made of numbers. -/
def madeP (L : List Int) : Prg :=
  let nc := nxtS L 0 4
  let cs := madeCs L nc.2 nc.1.toNat
  let nf := nxtS L cs.2 5
  let fs := madeFs L nf.2 nf.1.toNat
  ⟨cs.1, fs.1⟩

/-- The right words. -/
def wok (s : Str) : Prop := nameS s = true ∧ s.length ≤ 12
theorem wordN_ok (n : Int) : wok (wordN n) := wordN_name n
theorem wordsC_ok (L : List Int) (K : Nat) (most : Int) (h : 0 ≤ most) : (∀ x ∈ (wordsC L K most).1, wok x) ∧ ((wordsC L K most).1.length : Int) ≤ most := by
  have hr := nxtS_range L K (most + 1) (by omega)
  have hn := wordsS'_names L (nxtS L K (most + 1)).2 (nxtS L K (most + 1)).1.toNat
  refine ⟨fun x hx => ⟨List.all_eq_true.1 hn.1 x hx, hn.2 x hx⟩, ?_⟩
  unfold wordsC
  rw [wordsS'_len]
  omega
theorem madeMs_ok (L : List Int) (K : Nat) : ∀ k, (∀ m ∈ (madeMs L K k).1, wok m.1 ∧ wok m.2) ∧ (madeMs L K k).1.length = k
  | 0 => ⟨by simp [madeMs], rfl⟩
  | k + 1 => by
    have ih := madeMs_ok L K k
    refine ⟨fun m hm => ?_, by simp [madeMs, ih.2]⟩
    simp only [madeMs, List.mem_append, List.mem_singleton] at hm
    rcases hm with hm | rfl
    · exact ih.1 m hm
    · exact ⟨wordN_ok _, wordN_ok _⟩
theorem fieldsS_ok (L : List Int) (sh : Nat → Bool) (K : Nat) : ∀ k j, j < k → (sh j = true → wok ((fieldsS L sh K k).1.getD j [])) ∧ (sh j = false → (fieldsS L sh K k).1.getD j [] = [])
  | 0, j, h => by omega
  | k + 1, j, h => by
    have ih := fieldsS_ok L sh K k
    have hl := fieldsS_len L sh K k
    have hlast : ∀ (x : Str) (q : Nat), (((fieldsS L sh K k).1 ++ [x], q) : List Str × Nat).1.getD j [] = if j = k then x else (fieldsS L sh K k).1.getD j [] := by
      intro x q
      simp only [List.getD_eq_getElem?_getD]
      by_cases e : j = k
      · rw [if_pos e, List.getElem?_append_right (by omega), hl, e]; simp
      · rw [if_neg e, List.getElem?_append_left (by omega)]
    unfold fieldsS
    split
    · rename_i hs
      rw [hlast]
      by_cases e : j = k
      · subst e
        rw [if_pos rfl]
        exact ⟨fun _ => wordN_ok _, fun h => by rw [hs] at h; cases h⟩
      · rw [if_neg e]
        exact ih j (by omega)
    · rename_i hs
      rw [hlast]
      by_cases e : j = k
      · subst e
        rw [if_pos rfl]
        exact ⟨fun h => absurd h hs, fun _ => rfl⟩
      · rw [if_neg e]
        exact ih j (by omega)
/-- What a form shows is what Shows tells. -/
def formFits (op : Int) (f : Str) : Bool :=
  (decide (65 ∈ f) == (shows op).1) && (decide (66 ∈ f) == (shows op).2.1) && (decide (67 ∈ f) == (shows op).2.2.1) && (decide (78 ∈ f) == (shows op).2.2.2) && (decide (126 ∈ f) == takesArgs op) && (decide (76 ∈ f) == decide (op = 1)) && (decide (73 ∈ f) == decide (op = 32))
theorem forms_fit : formsL.all (fun p => formFits p.1 p.2) = true := by decide +kernel
theorem forms_all (op : Int) (h0 : 1 ≤ op) (h1 : op ≤ 42) : ∃ f, formS op = some f := by
  obtain ⟨n, rfl⟩ : ∃ n : Nat, op = n := ⟨op.toNat, by omega⟩
  have h : (List.range 43).all (fun n => decide (n = 0) || (formS (n : Int)).isSome) = true := by decide +kernel
  have := List.all_eq_true.1 h n (List.mem_range.2 (by omega))
  simp only [Bool.or_eq_true, decide_eq_true_eq] at this
  rcases this with h | h
  · omega
  · exact Option.isSome_iff_exists.1 h
theorem const_ok : (List.range 200).all (fun n => (litS (constV (n : Int))).2 && decide ((litS (constV (n : Int))).1.length ≤ 17)) = true := by decide +kernel
theorem spawn_ok : (List.range 8).all (fun n => (litS ⟨3, (n : Int) - 2, []⟩).2 && decide ((litS ⟨3, (n : Int) - 2, []⟩).1.length ≤ 17)) = true := by decide +kernel
/-- How long a form's text can be. -/
def mostT (c : UInt8) : Nat := if c = 65 ∨ c = 66 ∨ c = 67 ∨ c = 78 then 12 else if c = 76 ∨ c = 73 then 17 else if c = 126 then 104 else 1
theorem forms_most : formsL.all (fun p => decide ((p.2.map mostT).sum ≤ 149)) = true := by decide +kernel
theorem spc_most : ∀ (l : List Str), (∀ x ∈ l, x.length ≤ 12) → (spc l).length ≤ 13 * l.length
  | [], _ => by simp [spc]
  | x :: l, h => by
    have ih := spc_most l (fun y hy => h y (by simp [hy]))
    have := h x (by simp)
    rw [show spc (x :: l) = (32 :: x) ++ spc l from rfl]
    simp only [List.length_append, List.length_cons]
    omega
theorem lineCv_ok (L : List Int) (K : Nat) (op : Int) : (op = 1 → (litS (lineCv L K op).1).2 = true ∧ (litS (lineCv L K op).1).1.length ≤ 17) ∧ (op = 32 → (litS (lineCv L K op).1).2 = true ∧ (litS (lineCv L K op).1).1.length ≤ 17 ∧ (lineCv L K op).1.k = 3) ∧ (op ≠ 1 → op ≠ 32 → (lineCv L K op).1 = Val.zero) := by
  unfold lineCv
  refine ⟨fun h => ?_, fun h => ?_, fun h1 h2 => by rw [if_neg h1, if_neg h2]⟩
  · rw [if_pos h]
    have hr := nxtS_range L K 200 (by omega)
    have := List.all_eq_true.1 const_ok (nxtS L K 200).1.toNat (List.mem_range.2 (by omega))
    rw [Int.toNat_of_nonneg hr.1] at this
    simpa using this
  · rw [if_neg (by omega), if_pos h]
    have hr := nxtS_range L K 8 (by omega)
    have := List.all_eq_true.1 spawn_ok (nxtS L K 8).1.toNat (List.mem_range.2 (by omega))
    rw [Int.toNat_of_nonneg hr.1] at this
    simp only [Bool.and_eq_true, decide_eq_true_eq] at this
    exact ⟨this.1, this.2, rfl⟩
theorem lineArgs_ok (L : List Int) (K : Nat) (op : Int) : (takesArgs op = false → (lineArgs L K op).1 = []) ∧ (lineArgs L K op).1.all nameS = true ∧ (lineArgs L K op).1.length ≤ 8 ∧ ∀ x ∈ (lineArgs L K op).1, x.length ≤ 12 := by
  unfold lineArgs
  split
  · rename_i h
    have hr := nxtS_range L K 9 (by omega)
    have hn := wordsS'_names L (nxtS L K 9).2 (nxtS L K 9).1.toNat
    refine ⟨fun e => absurd (h.symm.trans e) (by decide), hn.1, ?_, hn.2⟩
    show (wordsS' L (nxtS L K 9).2 (nxtS L K 9).1.toNat).1.length ≤ 8
    rw [wordsS'_len]; omega
  · exact ⟨fun _ => rfl, rfl, by simp, by simp⟩
theorem flat_most (l : Ln) : ∀ (f : Str), (∀ c ∈ f, (pieceT l c).length ≤ mostT c) → (f.flatMap (pieceT l)).length ≤ (f.map mostT).sum
  | [], _ => by simp
  | c :: f, h => by
    have := flat_most l f (fun d hd => h d (by simp [hd]))
    have h1 := h c (by simp)
    simp only [List.flatMap_cons, List.length_append, List.map_cons, List.sum_cons]
    omega
theorem pick_ok {m : Prop} [Decidable m] {b : Bool} {x : Str} (e : decide m = b) (H : (b = true → wok x) ∧ (b = false → x = [])) : (if m then [] else x) = [] ∧ (m → wok x) := by
  by_cases h : m
  · rw [if_pos h]; exact ⟨rfl, fun _ => H.1 (by rw [← e]; simp [h])⟩
  · rw [if_neg h]; exact ⟨H.2 (by rw [← e]; simp [h]), fun x => absurd x h⟩
theorem forms_plain : formsL.all (fun p => p.2.any (fun c => decide (¬ (c = 65 ∨ c = 66 ∨ c = 67 ∨ c = 78 ∨ c = 76 ∨ c = 73 ∨ c = 126)))) = true := by decide +kernel
theorem line_good {l : Ln} {f : Str} (hf : formS l.op = some f)
    (H : ∀ c ∈ f, okT l c = true ∧ (pieceT l c).length ≤ mostT c) (hz : NF f l = Ln.zero l.op) : lineT l ≠ [] ∧ (lineT l).length ≤ 149 := by
  have ht := lineT_of hf (List.all_eq_true.2 fun c hc => (H c hc).1) hz
  have hm := of_decide_eq_true (List.all_eq_true.1 forms_most _ (formS_some hf))
  have hl := flat_most l f (fun c hc => (H c hc).2)
  refine ⟨fun e => ?_, by rw [ht]; exact Nat.le_trans hl hm⟩
  obtain ⟨c, hc, hp⟩ := List.any_eq_true.1 (List.all_eq_true.1 forms_plain _ (formS_some hf))
  have hp := plain_piece l (of_decide_eq_true hp)
  have : c ∈ f.flatMap (pieceT l) := List.mem_flatMap.2 ⟨c, hc, by rw [hp.1]; simp⟩
  rw [← ht, e] at this
  simp at this
set_option maxHeartbeats 1000000 in
theorem mLine_ok (L : List Int) (K : Nat) : lineT (mLine L K).1 ≠ [] ∧ (lineT (mLine L K).1).length ≤ 149 := by
  have hr := nxtS_range L K 42 (by omega)
  generalize hl : (mLine L K).1 = l
  have hop : l.op = 1 + (nxtS L K 42).1 := by rw [← hl]; rfl
  obtain ⟨f, hf⟩ := forms_all l.op (by omega) (by omega)
  have hfit := List.all_eq_true.1 forms_fit _ (formS_some hf)
  unfold formFits at hfit
  simp only [Bool.and_eq_true, beq_iff_eq] at hfit
  obtain ⟨⟨⟨⟨⟨⟨fa, fb⟩, fc⟩, fn⟩, fx⟩, fl⟩, fi⟩ := hfit
  have F := fieldsS_ok L (shAt (shows l.op)) (nxtS L K 42).2 4
  have ha : l.a = (fieldsS L (shAt (shows l.op)) (nxtS L K 42).2 4).1.getD 0 [] := by rw [hop, ← hl]; rfl
  have hb : l.b = (fieldsS L (shAt (shows l.op)) (nxtS L K 42).2 4).1.getD 1 [] := by rw [hop, ← hl]; rfl
  have hc : l.c = (fieldsS L (shAt (shows l.op)) (nxtS L K 42).2 4).1.getD 2 [] := by rw [hop, ← hl]; rfl
  have hn : l.nm = (fieldsS L (shAt (shows l.op)) (nxtS L K 42).2 4).1.getD 3 [] := by rw [hop, ← hl]; rfl
  have hcv : l.cv = (lineCv L (fieldsS L (shAt (shows l.op)) (nxtS L K 42).2 4).2 l.op).1 := by rw [hop, ← hl]; rfl
  have hag : l.args = (lineArgs L (lineCv L (fieldsS L (shAt (shows l.op)) (nxtS L K 42).2 4).2 l.op).2 l.op).1 := by rw [hop, ← hl]; rfl
  generalize (fieldsS L (shAt (shows l.op)) (nxtS L K 42).2 4) = FS at *
  have V := lineCv_ok L FS.2 l.op
  have A := lineArgs_ok L (lineCv L FS.2 l.op).2 l.op
  rw [← hcv] at V
  rw [← hag] at A
  have Fa := F 0 (by omega); rw [← ha] at Fa
  have Fb := F 1 (by omega); rw [← hb] at Fb
  have Fc := F 2 (by omega); rw [← hc] at Fc
  have Fn := F 3 (by omega); rw [← hn] at Fn
  clear ha hb hc hn hcv hag F
  have Pa := pick_ok fa Fa
  have Pb := pick_ok fb Fb
  have Pc := pick_ok fc Fc
  have Pn := pick_ok fn Fn
  have hz : NF f l = Ln.zero l.op := by
    unfold NF Ln.zero
    rw [Pa.1, Pb.1, Pc.1, Pn.1]
    have h1 : (if 126 ∈ f then ([] : List Str) else l.args) = [] := by
      split
      · rfl
      · rename_i h
        exact A.1 (by rw [← fx]; simp [h])
    have h2 : (if 76 ∈ f ∨ 73 ∈ f then Val.zero else l.cv) = Val.zero := by
      split
      · rfl
      · rename_i h
        rw [not_or] at h
        refine V.2.2 (fun e => ?_) (fun e => ?_)
        · rw [decide_eq_false h.1] at fl; exact absurd e (of_decide_eq_false fl.symm)
        · rw [decide_eq_false h.2] at fi; exact absurd e (of_decide_eq_false fi.symm)
    rw [h1, h2]
  refine line_good hf (fun c hc => ?_) hz
  by_cases e1 : c = 65
  · subst e1; exact ⟨by unfold okT okX; simp [(Pa.2 hc).1], (Pa.2 hc).2⟩
  by_cases e2 : c = 66
  · subst e2; exact ⟨by unfold okT okX; simp [(Pb.2 hc).1], (Pb.2 hc).2⟩
  by_cases e3 : c = 67
  · subst e3; exact ⟨by unfold okT okX; simp [(Pc.2 hc).1], (Pc.2 hc).2⟩
  by_cases e4 : c = 78
  · subst e4; exact ⟨by unfold okT okX; simp [(Pn.2 hc).1], (Pn.2 hc).2⟩
  by_cases e5 : c = 76
  · subst e5
    rw [decide_eq_true hc] at fl
    have := V.1 (of_decide_eq_true fl.symm)
    exact ⟨by unfold okT okX; simp [this.1], this.2⟩
  by_cases e6 : c = 73
  · subst e6
    rw [decide_eq_true hc] at fi
    have := V.2.1 (of_decide_eq_true fi.symm)
    exact ⟨by unfold okT okX; simp [this.1, this.2.2], this.2.1⟩
  by_cases e7 : c = 126
  · subst e7
    refine ⟨?_, ?_⟩
    · show (l.args.all nameS && decide (l.args.length ≤ 8)) = true
      rw [A.2.1, decide_eq_true A.2.2.1]; rfl
    have := spc_most l.args A.2.2.2
    have h8 := A.2.2.1
    show (spc l.args).length ≤ 104
    omega
  have hp := plain_piece l (c := c) (by simp [e1, e2, e3, e4, e5, e6, e7])
  refine ⟨by unfold okT; rw [hp.2, if_neg e7]; rfl, ?_⟩
  rw [hp.1]
  unfold mostT
  simp [e1, e2, e3, e4, e5, e6, e7]
theorem const_small : (List.range 200).all (fun n => decide ((constV (n : Int)).s.length ≤ 100) && decide (-100000000000000000 ≤ (constV (n : Int)).n) && decide ((constV (n : Int)).n ≤ 100000000000000000)) = true := by decide +kernel
theorem lineCv_small (L : List Int) (K : Nat) (op : Int) : (lineCv L K op).1.s.length ≤ 100 ∧ -100000000000000000 ≤ (lineCv L K op).1.n ∧ (lineCv L K op).1.n ≤ 100000000000000000 := by
  unfold lineCv
  split
  · have hr := nxtS_range L K 200 (by omega)
    have := List.all_eq_true.1 const_small (nxtS L K 200).1.toNat (List.mem_range.2 (by omega))
    rw [Int.toNat_of_nonneg hr.1] at this
    simp only [Bool.and_eq_true, decide_eq_true_eq] at this
    exact ⟨this.1.1, this.1.2, this.2⟩
  · split
    · have hr := nxtS_range L K 8 (by omega)
      exact ⟨by simp, by simp only; omega, by simp only; omega⟩
    · exact ⟨by simp [Val.zero], by simp [Val.zero], by simp [Val.zero]⟩
theorem field_small (L : List Int) (sh : Nat → Bool) (K j : Nat) (h : j < 4) : ((fieldsS L sh K 4).1.getD j []).length ≤ 10000000 := by
  have F := fieldsS_ok L sh K 4 j h
  cases e : sh j with
  | true => have := (F.1 e).2; omega
  | false => rw [F.2 e]; simp
theorem op_wf {op : Int} (h0 : 1 ≤ op) (h1 : op ≤ 42) : (Lit.int IntKind.i64 op).wf = true := by
  have h : (List.range 43).all (fun n => (Lit.int IntKind.i64 (n : Int)).wf) = true := by decide +kernel
  have := List.all_eq_true.1 h op.toNat (List.mem_range.2 (by omega))
  rwa [Int.toNat_of_nonneg (by omega)] at this
theorem mLine_small (L : List Int) (K : Nat) : Small (mLine L K).1 ∧ (Lit.int IntKind.i64 (mLine L K).1.op).wf = true := by
  have hr := nxtS_range L K 42 (by omega)
  have V := lineCv_small L (fieldsS L (shAt (shows (1 + (nxtS L K 42).1))) (nxtS L K 42).2 4).2 (1 + (nxtS L K 42).1)
  have A := lineArgs_ok L (lineCv L (fieldsS L (shAt (shows (1 + (nxtS L K 42).1))) (nxtS L K 42).2 4).2 (1 + (nxtS L K 42).1)).2 (1 + (nxtS L K 42).1)
  refine ⟨⟨field_small L _ _ 0 (by omega), field_small L _ _ 1 (by omega), field_small L _ _ 2 (by omega), field_small L _ _ 3 (by omega), Nat.le_trans V.1 (by omega), ⟨?_, ?_⟩, ?_⟩, op_wf (show 1 ≤ 1 + (nxtS L K 42).1 by omega) (show 1 + (nxtS L K 42).1 ≤ 42 by omega)⟩
  · exact Int.le_trans (by decide) V.2.1
  · refine Int.le_trans V.2.2 ?_
    decide
  · have := spc_most _ A.2.2.2
    have h8 := A.2.2.1
    show (spc (lineArgs L _ _).1).length ≤ 10000000
    omega
theorem madeLs_ok (L : List Int) (K : Nat) : ∀ k, (∀ l ∈ (madeLs L K k).1, (lineT l ≠ [] ∧ (lineT l).length ≤ 149) ∧ Small l ∧ (Lit.int IntKind.i64 l.op).wf = true) ∧ (madeLs L K k).1.length = k
  | 0 => ⟨by simp [madeLs], rfl⟩
  | k + 1 => by
    have ih := madeLs_ok L K k
    refine ⟨fun m hm => ?_, by simp [madeLs, ih.2]⟩
    simp only [madeLs, List.mem_append, List.mem_singleton] at hm
    rcases hm with hm | rfl
    · exact ih.1 m hm
    · exact ⟨mLine_ok _ _, mLine_small _ _⟩
theorem flatMap_most {α : Type _} (g : α → Str) (n : Nat) : ∀ l : List α, (∀ x ∈ l, (g x).length ≤ n) → (l.flatMap g).length ≤ n * l.length
  | [], _ => by simp
  | x :: l, h => by
    have := flatMap_most g n l (fun y hy => h y (by simp [hy]))
    have := h x (by simp)
    simp only [List.flatMap_cons, List.length_append, List.length_cons, Nat.mul_add, Nat.mul_one]
    omega
theorem madeC_ok (L : List Int) (K : Nat) : clsOk (madeC L K).1 = true ∧ (clsText (madeC L K).1).length ≤ 137 := by
  generalize hr : nxtS L K 8 = r
  have W := wordsC_ok L r.2 4 (by omega)
  generalize hw : wordsC L r.2 4 = ws at W
  have hn := nxtS_range L ws.2 3 (by omega)
  generalize hnn : nxtS L ws.2 3 = n at hn
  have M := madeMs_ok L n.2 n.1.toNat
  generalize hm : madeMs L n.2 n.1.toNat = ms at M
  have e : (madeC L K).1 = ⟨wordN r.1, ws.1, ms.1⟩ := by unfold madeC; simp only [hr, hw, hnn, hm]
  rw [e]
  have h0 := wordN_ok r.1
  have hF : ∀ x ∈ wordN r.1 :: ws.1, wok x := fun x hx => by
    rcases List.mem_cons.1 hx with rfl | hx
    · exact h0
    · exact W.1 x hx
  constructor
  · unfold clsOk
    simp only [Bool.and_eq_true, decide_eq_true_eq]
    refine ⟨⟨⟨by omega, by omega⟩, List.all_eq_true.2 fun x hx => (hF x hx).1⟩, List.all_eq_true.2 fun m hm => ?_⟩
    have := M.1 m hm
    unfold mOk
    simp [this.1.1, this.2.1]
  · unfold clsText
    have h1 := spc_most _ (fun x hx => (hF x hx).2)
    have h2 := flatMap_most mText 33 ms.1 (fun m hm => by
      have := M.1 m hm
      have h := spc_most [m.1, m.2] (fun x hx => by
        rcases List.mem_cons.1 hx with rfl | hx
        · exact this.1.2
        · rw [List.mem_singleton.1 hx]; exact this.2.2)
      unfold mText
      rw [lnText_len]
      simp only [List.length_cons, List.length_nil, show wMethod.length = 6 from rfl] at h ⊢
      omega)
    rw [List.length_append, lnText_len]
    simp only [List.length_cons, show wClass.length = 5 from rfl] at h1 ⊢
    omega
theorem madeF_ok (L : List Int) (K : Nat) : fnOk (madeF L K).1 = true ∧ (fnText (madeF L K).1).length ≤ 1865 ∧ ∀ l ∈ (madeF L K).1.lines, Small l ∧ (Lit.int IntKind.i64 l.op).wf = true := by
  generalize hr : nxtS L K 8 = r
  have W := wordsC_ok L r.2 3 (by omega)
  generalize hw : wordsC L r.2 3 = ws at W
  have hn := nxtS_range L ws.2 13 (by omega)
  generalize hnn : nxtS L ws.2 13 = n at hn
  have M := madeLs_ok L n.2 n.1.toNat
  generalize hm : madeLs L n.2 n.1.toNat = ms at M
  have e : (madeF L K).1 = ⟨wordN r.1, ws.1, ms.1⟩ := by unfold madeF; simp only [hr, hw, hnn, hm]
  rw [e]
  have h0 := wordN_ok r.1
  have hF : ∀ x ∈ wordN r.1 :: ws.1, wok x := fun x hx => by
    rcases List.mem_cons.1 hx with rfl | hx
    · exact h0
    · exact W.1 x hx
  refine ⟨?_, ?_, fun l hl => (M.1 l hl).2⟩
  · unfold fnOk
    simp only [Bool.and_eq_true, decide_eq_true_eq]
    refine ⟨⟨⟨by omega, by omega⟩, List.all_eq_true.2 fun x hx => (hF x hx).1⟩, List.all_eq_true.2 fun m hm => ?_⟩
    unfold lOk
    exact decide_eq_true (M.1 m hm).1.1
  · unfold fnText
    have h1 := spc_most _ (fun x hx => (hF x hx).2)
    have h2 := flatMap_most lText 150 ms.1 (fun m hm => by
      have := (M.1 m hm).1.2
      unfold lText
      simp only [List.length_append, List.length_cons, List.length_nil]
      omega)
    rw [List.length_append, List.length_append, lnText_len]
    simp only [List.length_cons, show wFunc.length = 4 from rfl, show (wEnd ++ [10]).length = 8 from rfl] at h1 ⊢
    omega
theorem madeCs_ok (L : List Int) (K : Nat) : ∀ k, (∀ c ∈ (madeCs L K k).1, clsOk c = true ∧ (clsText c).length ≤ 137) ∧ (madeCs L K k).1.length = k
  | 0 => ⟨by simp [madeCs], rfl⟩
  | k + 1 => by
    have ih := madeCs_ok L K k
    refine ⟨fun m hm => ?_, by simp [madeCs, ih.2]⟩
    simp only [madeCs, List.mem_append, List.mem_singleton] at hm
    rcases hm with hm | rfl
    · exact ih.1 m hm
    · exact madeC_ok _ _
theorem madeFs_ok (L : List Int) (K : Nat) : ∀ k, (∀ c ∈ (madeFs L K k).1, fnOk c = true ∧ (fnText c).length ≤ 1865 ∧ ∀ l ∈ c.lines, Small l ∧ (Lit.int IntKind.i64 l.op).wf = true) ∧ (madeFs L K k).1.length = k
  | 0 => ⟨by simp [madeFs], rfl⟩
  | k + 1 => by
    have ih := madeFs_ok L K k
    refine ⟨fun m hm => ?_, by simp [madeFs, ih.2]⟩
    simp only [madeFs, List.mem_append, List.mem_singleton] at hm
    rcases hm with hm | rfl
    · exact ih.1 m hm
    · exact madeF_ok _ _
theorem madeP_ok (L : List Int) : prgOk (madeP L) = true ∧ (rawText (madeP L)).length ≤ 8000 ∧ (∀ f ∈ (madeP L).funcs, ∀ l ∈ f.lines, Small l ∧ (Lit.int IntKind.i64 l.op).wf = true) := by
  have r1 := nxtS_range L 0 4 (by omega)
  generalize h1 : nxtS L 0 4 = nc at r1
  have C := madeCs_ok L nc.2 nc.1.toNat
  generalize h2 : madeCs L nc.2 nc.1.toNat = cs at C
  have r3 := nxtS_range L cs.2 5 (by omega)
  generalize h3 : nxtS L cs.2 5 = nf at r3
  have F := madeFs_ok L nf.2 nf.1.toNat
  generalize h4 : madeFs L nf.2 nf.1.toNat = fs at F
  have e : madeP L = ⟨cs.1, fs.1⟩ := by unfold madeP; simp only [h1, h2, h3, h4]
  rw [e]
  refine ⟨?_, ?_, fun f hf => (F.1 f hf).2.2⟩
  · unfold prgOk
    simp only [Bool.and_eq_true, decide_eq_true_eq]
    exact ⟨⟨⟨by omega, by omega⟩, List.all_eq_true.2 fun x hx => (C.1 x hx).1⟩, List.all_eq_true.2 fun x hx => (F.1 x hx).1⟩
  · have a := flatMap_most clsText 137 cs.1 (fun x hx => (C.1 x hx).2)
    have b := flatMap_most fnText 1865 fs.1 (fun x hx => (F.1 x hx).2.1)
    unfold rawText
    rw [List.length_append]
    simp only
    omega
end Go.Proofs.YtdkcdodkhghfhaaGreatDoor
/- Plain: a program's text cut at its lines' ends, and the lines inside its functions. -/
namespace Go.Proofs.YtdkcdodkhghfhaaGreatDoor
open Go

theorem splitS_unl (c : UInt8) : ∀ (ls : List Str), (∀ x ∈ ls, c ∉ x) → splitS c (ls.flatMap (· ++ [c])) = ls ++ [[]]
  | [], _ => rfl
  | x :: ls, h => by
    have e : (x :: ls).flatMap (· ++ [c]) = x ++ c :: ls.flatMap (· ++ [c]) := by simp
    rw [e, splitS_app c x _ (h x (by simp)), splitS_unl c ls (fun y hy => h y (by simp [hy]))]
    rfl
theorem split_raw {p : Prg} (h : prgOk p = true) : splitS 10 (rawText p) = prgLines p ++ [[]] := by
  rw [rawText_lines]
  exact splitS_unl 10 _ (fun x hx => prt_no (prg_prt h x hx))
def pFunc : Str := [102, 117, 110, 99, 32]
theorem forms_head : formsL.all (fun p => match p.2 with
    | [] => false
    | c :: g => (c == 65 && headOk g) || (c == 102 && g.head? == some 105) || (c != 102 && decide (¬ (c = 65 ∨ c = 66 ∨ c = 67 ∨ c = 78 ∨ c = 76 ∨ c = 73 ∨ c = 126)))) = true := by decide +kernel
theorem line_head {l : Ln} (h : lineT l ≠ []) : Lib.hasPrefix (lineT l) pFunc = false := by
  obtain ⟨f, hf, hk, hz, ht⟩ := lineT_right h
  have hh := List.all_eq_true.1 forms_head _ (formS_some hf)
  rw [Bool.eq_false_iff]
  intro hp
  have hp := List.isPrefixOf_iff_prefix.1 hp
  obtain ⟨t, e⟩ := hp
  rw [ht] at e
  cases f with
  | nil => simp at hh
  | cons c g =>
    simp only [Bool.or_eq_true, Bool.and_eq_true, beq_iff_eq, bne_iff_ne, decide_eq_true_eq] at hh
    rw [List.flatMap_cons] at e
    rcases hh with (⟨rfl, hg⟩ | ⟨rfl, hg⟩) | ⟨hc, hpl⟩
    · have hok := List.all_eq_true.1 (okT_okX hk) 65 (by simp)
      have hn : nameS l.a = true := hok
      have r1 := run_app (name_aln hn).1 (head_piece l g hg)
      have hp65 : pieceT l 65 = l.a := rfl
      rw [hp65] at e
      rw [← e] at r1
      have r2 : runS (pFunc ++ t) = [102, 117, 110, 99] := by
        show runS ([102, 117, 110, 99] ++ (32 :: t)) = _
        exact run_app (by decide) (.inr ⟨32, t, rfl, by decide⟩)
      rw [r2] at r1
      rw [← r1] at hn
      revert hn
      decide
    · cases g with
      | nil => simp at hg
      | cons d g =>
        simp only [List.head?_cons, Option.some.injEq] at hg
        subst hg
        have e' : pFunc ++ t = 102 :: 105 :: g.flatMap (pieceT l) := e
        have := congrArg (fun x => x[1]?) e'
        simp [pFunc] at this
    · rw [(plain_piece l hpl).1] at e
      have : (102 : UInt8) = c := by
        have := congrArg List.head? e
        simpa [pFunc] using this
      exact hc this.symm
theorem line_end {l : Ln} (h : lineT l ≠ []) : lineT l ≠ wEnd := fun e => by
  have hr := line_round h
  rw [e, end_no] at hr
  cases hr
/-- One step of the scan: inside a function?, the lines that were found. -/
def scan1 (st : Bool × List Ln) (x : Str) : Bool × List Ln :=
  if Lib.hasPrefix x pFunc = true then (true, st.2) else if x = wEnd then (false, st.2) else if st.1 = true then (true, st.2 ++ [(rlS x).getD (Ln.zero 0)]) else st
/-- A line that is right where it stands inside. -/
def scanOk (Q : Ln → Prop) (st : Bool × List Ln) (x : Str) : Prop := Lib.hasPrefix x pFunc = false → x ≠ wEnd → st.1 = true → ∃ l, rlS x = some l ∧ lineT l = x ∧ lineT l ≠ [] ∧ Q l
def scan (st : Bool × List Ln) (ls : List Str) : Bool × List Ln := ls.foldl scan1 st
def scansOk (Q : Ln → Prop) : Bool × List Ln → List Str → Prop
  | _, [] => True
  | st, x :: ls => scanOk Q st x ∧ scansOk Q (scan1 st x) ls
theorem scansOk_app {Q : Ln → Prop} : ∀ (a b : List Str) (st : Bool × List Ln), scansOk Q st a → scansOk Q (scan st a) b → scansOk Q st (a ++ b)
  | [], _, _, _, h => h
  | x :: a, b, st, ha, hb => ⟨ha.1, scansOk_app a b (scan1 st x) ha.2 hb⟩
theorem scansOk_at {Q : Ln → Prop} : ∀ (a : List Str) (st : Bool × List Ln) (k : Nat) (h : k < a.length), scansOk Q st a → scanOk Q (scan st (a.take k)) a[k]
  | x :: a, st, 0, _, h => h.1
  | x :: a, st, k + 1, hk, h => by
    simp only [List.take_succ_cons, List.getElem_cons_succ]
    exact scansOk_at a (scan1 st x) k (by simpa using hk) h.2
theorem scan_app (st : Bool × List Ln) (a b : List Str) : scan st (a ++ b) = scan (scan st a) b := List.foldl_append ..
theorem scan_next (st : Bool × List Ln) (a : List Str) (k : Nat) (h : k < a.length) : scan st (a.take (k + 1)) = scan1 (scan st (a.take k)) a[k] := by
  rw [List.take_succ_eq_append_getElem h, scan_app]
  rfl
theorem head_no {w : Str} (c : UInt8) (hw : w.head? = some c) (hc : c ≠ 102) (t : Str) : Lib.hasPrefix (w ++ t) pFunc = false := by
  rw [Bool.eq_false_iff]
  intro hp
  obtain ⟨u, e⟩ := List.isPrefixOf_iff_prefix.1 hp
  cases w with
  | nil => simp at hw
  | cons x w =>
    simp only [List.head?_cons, Option.some.injEq] at hw
    have := congrArg List.head? e
    simp only [pFunc, List.cons_append, List.head?_cons, Option.some.injEq] at this
    exact hc (by rw [← hw, ← this])
theorem head_ne {w : Str} (c : UInt8) (hw : w.head? = some c) (hc : c ≠ 101) (t : Str) : w ++ t ≠ wEnd := fun e => by
  cases w with
  | nil => simp at hw
  | cons x w =>
    simp only [List.head?_cons, Option.some.injEq] at hw
    have := congrArg List.head? e
    simp only [wEnd, List.cons_append, List.head?_cons, Option.some.injEq] at this
    exact hc (by rw [← hw, this])
theorem scan_out {Q : Ln → Prop} (st : List Ln) (x : Str) (h1 : Lib.hasPrefix x pFunc = false) (h2 : x ≠ wEnd) : scan1 (false, st) x = (false, st) ∧ scanOk Q (false, st) x := by
  refine ⟨?_, fun _ _ h => by cases h⟩
  unfold scan1
  rw [if_neg (by simp [h1]), if_neg h2, if_neg (by simp)]
theorem scan_cls {Q : Ln → Prop} (fd : List Ln) : ∀ (ls : List Str), (∀ x ∈ ls, Lib.hasPrefix x pFunc = false ∧ x ≠ wEnd) → scan (false, fd) ls = (false, fd) ∧ scansOk Q (false, fd) ls
  | [], _ => ⟨rfl, trivial⟩
  | x :: ls, h => by
    have h1 := scan_out (Q := Q) fd x (h x (by simp)).1 (h x (by simp)).2
    have ih := scan_cls (Q := Q) fd ls (fun y hy => h y (by simp [hy]))
    refine ⟨?_, h1.2, ?_⟩
    · show scan (scan1 (false, fd) x) ls = _
      rw [h1.1]; exact ih.1
    · rw [h1.1]; exact ih.2
theorem scan_body {Q : Ln → Prop} : ∀ (ls fd : List Ln), (∀ l ∈ ls, lineT l ≠ [] ∧ Q l) → scan (true, fd) (ls.map lineT) = (true, fd ++ ls) ∧ scansOk Q (true, fd) (ls.map lineT)
  | [], fd, _ => ⟨by simp [scan], trivial⟩
  | l :: ls, fd, h => by
    have hl := (h l (by simp)).1
    have hq := (h l (by simp)).2
    have h1 : scan1 (true, fd) (lineT l) = (true, fd ++ [l]) := by
      unfold scan1
      rw [if_neg (by simp [line_head hl]), if_neg (line_end hl), if_pos rfl, line_round hl]
      rfl
    have ih := scan_body (Q := Q) ls (fd ++ [l]) (fun y hy => h y (by simp [hy]))
    refine ⟨?_, fun _ _ _ => ⟨l, line_round hl, rfl, hl, hq⟩, ?_⟩
    · show scan (scan1 (true, fd) (lineT l)) (ls.map lineT) = _
      rw [h1, ih.1]; simp
    · rw [h1]; exact ih.2
theorem scan_fn {Q : Ln → Prop} (fd : List Ln) (b : Bool) {f : Fn} (h : fnOk f = true) (hQ : ∀ l ∈ f.lines, Q l) : scan (b, fd) (fnLines f) = (false, fd ++ f.lines) ∧ scansOk Q (b, fd) (fnLines f) := by
  unfold fnOk at h
  simp only [Bool.and_eq_true] at h
  have hls : ∀ l ∈ f.lines, lineT l ≠ [] ∧ Q l := fun l hl => ⟨of_decide_eq_true (List.all_eq_true.1 h.2 l hl), hQ l hl⟩
  have B := scan_body (Q := Q) f.lines fd hls
  have hp : Lib.hasPrefix (wFunc ++ spc (f.nm :: f.params)) pFunc = true := List.isPrefixOf_iff_prefix.2 ⟨f.nm ++ spc f.params, by simp [pFunc, wFunc, spc]⟩
  have h1 : scan1 (b, fd) (wFunc ++ spc (f.nm :: f.params)) = (true, fd) := by unfold scan1; rw [if_pos hp]
  have he : scan1 (true, fd ++ f.lines) wEnd = (false, fd ++ f.lines) := by
    unfold scan1
    rw [if_neg (by decide), if_pos rfl]
  unfold fnLines
  refine ⟨?_, fun h _ _ => absurd (hp.symm.trans h) (by decide), ?_⟩
  · show scan (scan1 (b, fd) _) _ = _
    rw [h1, scan_app, B.1]
    exact he
  · rw [h1]
    refine scansOk_app _ _ _ B.2 ?_
    rw [B.1]
    exact ⟨fun _ h _ => absurd rfl h, trivial⟩
theorem scan_fns {Q : Ln → Prop} : ∀ (fs : List Fn) (fd : List Ln), fs.all fnOk = true → (∀ f ∈ fs, ∀ l ∈ f.lines, Q l) → scan (false, fd) (fs.flatMap fnLines) = (false, fd ++ fs.flatMap (·.lines)) ∧ scansOk Q (false, fd) (fs.flatMap fnLines)
  | [], fd, _, _ => ⟨by simp [scan], trivial⟩
  | f :: fs, fd, h, hQ => by
    simp only [List.all_cons, Bool.and_eq_true] at h
    have F := scan_fn (Q := Q) fd false h.1 (hQ f (by simp))
    have ih := scan_fns (Q := Q) fs (fd ++ f.lines) h.2 (fun g hg => hQ g (by simp [hg]))
    rw [List.flatMap_cons]
    refine ⟨?_, scansOk_app _ _ _ F.2 ?_⟩
    · rw [scan_app, F.1, ih.1]; simp
    · rw [F.1]; exact ih.2
theorem scan_prg {Q : Ln → Prop} {p : Prg} (h : prgOk p = true) (hQ : ∀ f ∈ p.funcs, ∀ l ∈ f.lines, Q l) : scan (false, []) (prgLines p ++ [[]]) = (false, p.funcs.flatMap (·.lines)) ∧ scansOk Q (false, []) (prgLines p ++ [[]]) := by
  unfold prgOk at h
  simp only [Bool.and_eq_true] at h
  have C := scan_cls (Q := Q) [] (p.classes.flatMap clsLines) (fun x hx => by
    obtain ⟨c, _, hx⟩ := List.mem_flatMap.1 hx
    unfold clsLines at hx
    rcases List.mem_cons.1 hx with rfl | hx
    · exact ⟨head_no 99 rfl (by decide) _, head_ne 99 rfl (by decide) _⟩
    · obtain ⟨m, _, rfl⟩ := List.mem_map.1 hx
      exact ⟨head_no 109 rfl (by decide) _, head_ne 109 rfl (by decide) _⟩)
  have F := scan_fns (Q := Q) p.funcs [] h.2 hQ
  have E := scan_out (Q := Q) ([] ++ p.funcs.flatMap (·.lines)) [] (by decide) (by decide)
  unfold prgLines
  refine ⟨?_, scansOk_app _ _ _ (scansOk_app _ _ _ C.2 ?_) ?_⟩
  · rw [scan_app, scan_app, C.1, F.1]
    exact E.1
  · rw [C.1]; exact F.2
  · rw [scan_app, C.1, F.1]
    exact ⟨E.2, trivial⟩
end Go.Proofs.YtdkcdodkhghfhaaGreatDoor
