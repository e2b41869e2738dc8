/- The reference: the walk of MadeLine. -/
import Derived.Test.YtdkcdodkhghfhaaGreatDoorRL3
namespace Go.Proofs.YtdkcdodkhghfhaaGreatDoor
open Go.RowKit Go.Proofs.YtdkcdodkhghfhaaGreatDoorW.PrintWords Go.Proofs.YtdkcdodkhghfhaaGreatDoorW.PrintLast

def MLineOut (L : List Int) (A : Option Addr) (cp b K : Nat) (w : World) (e : Ending) (w' : World) : Prop :=
  ∃ A' cp', e = .returned (.agg ((mLine L K).1.cells (.slice A' (mLine L K).1.args.length cp'))) ∧ NumAt L A cp b (mLine L K).2 w' ∧ (mLine L K).2 ≤ L.length ∧ NumW b w w' ∧
    w'.ownsRow w.heap.size 9 1 (.slice A' (mLine L K).1.args.length cp') (mLine L K).1.args.length (strs (mLine L K).1.args)
def flc (l : List Str) (k : Nat) : Array Value := (strs (l ++ List.replicate (4 - k) [])).toArray
theorem flc_skip (l : List Str) (k : Nat) (hk : k < 4) : flc l k = flc (l ++ [[]]) (k + 1) := by
  unfold flc
  rw [show 4 - k = (4 - (k + 1)) + 1 from by omega, List.replicate_succ]
  simp
theorem flc_set (l : List Str) (k : Nat) (hl : l.length = k) (hk : k < 4) (x : Str) : (flc l k).setIfInBounds k (sv x) = flc (l ++ [x]) (k + 1) := by
  unfold flc
  rw [show 4 - k = (4 - (k + 1)) + 1 from by omega, List.replicate_succ]
  apply Array.toList_inj.1
  simp only [strs, Array.toList_setIfInBounds, List.map_append, List.map_cons, List.map_nil]
  rw [List.set_append_right _ _ (by simp; omega)]
  simp [hl]
theorem flc_at (l : List Str) (k : Nat) (hl : l.length = k) (hk : k < 4) : (flc l k)[k]? = some (.string ⟨#[]⟩) := by
  unfold flc
  rw [show 4 - k = (4 - (k + 1)) + 1 from by omega, List.replicate_succ]
  simp only [strs, List.getElem?_toArray, List.map_append, List.map_cons]
  rw [List.getElem?_append_right (by simp; omega)]
  simp [hl, sv]
def shc (s : Bool × Bool × Bool × Bool) : Array Value := #[.bool (shAt s 0), .bool (shAt s 1), .bool (shAt s 2), .bool (shAt s 3)]
theorem shc_at (s : Bool × Bool × Bool × Bool) (k : Nat) (hk : k < 4) : (shc s)[k]? = some (.bool (shAt s k)) := by
  match k, hk with
  | 0, _ => rfl
  | 1, _ => rfl
  | 2, _ => rfl
  | 3, _ => rfl
set_option maxHeartbeats 4000000 in
set_option maxRecDepth 100000 in
theorem madeLine_calls (L : List Int) (A : Option Addr) (cp b K : Nat) (w : World) (h : NumAt L A cp b K w) (hA : NumsIn L A b w) (hL : L.length ≤ 1000000000000000000) (hK : K ≤ L.length) :
    Calls Tryz.prog 23 #[.pointer (some ⟨b, 0, none⟩)] w (MLineOut L A cp b K w) := by
  have hbw := h.lt
  have H := Lib.hid h
  have HA := Lib.hid hA
  clear h hA
  go_enter Tryz.func23, Tryz.ntmps23
  go_wp2_with fail
  refine (next_calls L A cp b K 42 _ (H.out.below ((Below.refl _ _).alloc (Nat.le_refl _) _)) (HA.out.below ((Below.refl _ _).alloc (by omega) _)) (by omega) hL hK).mono ?_
  rintro e w1 ⟨rfl, hN, hT⟩
  have hr := nxtS_range L K 42 (by omega)
  have hk1 := nxt_le L K 42 hK
  have W1 := Lib.hid (((NumW.refl b w).alloc (by omega) (.cells zero40 40)).trans (NumW.of_to hT))
  have R1 := Lib.hid ((hT.k w.heap.size (by omega)).trans (heap_new w (.cells zero40 40)))
  have N1 := Lib.hid hN
  have z1 : w.heap.size < w1.heap.size := sizeB R1.out
  have HML : Hid (mLine L K = (⟨1 + (nxtS L K 42).1, (fieldsS L (shAt (shows (1 + (nxtS L K 42).1))) (nxtS L K 42).2 4).1.getD 0 [], (fieldsS L (shAt (shows (1 + (nxtS L K 42).1))) (nxtS L K 42).2 4).1.getD 1 [], (fieldsS L (shAt (shows (1 + (nxtS L K 42).1))) (nxtS L K 42).2 4).1.getD 2 [], (fieldsS L (shAt (shows (1 + (nxtS L K 42).1))) (nxtS L K 42).2 4).1.getD 3 [],
      (lineArgs L (lineCv L (fieldsS L (shAt (shows (1 + (nxtS L K 42).1))) (nxtS L K 42).2 4).2 (1 + (nxtS L K 42).1)).2 (1 + (nxtS L K 42).1)).1, (lineCv L (fieldsS L (shAt (shows (1 + (nxtS L K 42).1))) (nxtS L K 42).2 4).2 (1 + (nxtS L K 42).1)).1⟩,
      (lineArgs L (lineCv L (fieldsS L (shAt (shows (1 + (nxtS L K 42).1))) (nxtS L K 42).2 4).2 (1 + (nxtS L K 42).1)).2 (1 + (nxtS L K 42).1)).2)) := Lib.hid rfl
  clear hN hT
  generalize (nxtS L K 42).2 = K1 at *
  generalize (nxtS L K 42).1 = o at *
  obtain ⟨o0, o1⟩ := hr
  go_wp2_with fail
  refine (shows_calls (1 + o) _).mono ?_
  rintro e w2 ⟨rfl, hb2⟩
  have hm : MSt L A cp b w w1.heap.size w2.heap.size (w2.heap.size + 1) #[.int .i64 (1 + o), .string ⟨#[]⟩, .string ⟨#[]⟩, .string ⟨#[]⟩, .string ⟨#[]⟩, .slice none 0 0, .int .i64 0, .int .i64 0, .string ⟨#[]⟩] (shc (shows (1 + o)))
      (flc [] 0) K1 ((w2.alloc (.cells (shc (shows (1 + o))) 111)).alloc (.cells (flc [] 0) 113)) := by
    have a1 := (NumW.refl b w1).alloc (by omega) (.cells #[.int .i64 (1 + o), .string ⟨#[]⟩, .string ⟨#[]⟩, .string ⟨#[]⟩, .string ⟨#[]⟩, .slice none 0 0, .int .i64 0, .int .i64 0, .string ⟨#[]⟩] 40)
    have r1 := (heap_alloc_old w1 (.cells #[.int .i64 (1 + o), .string ⟨#[]⟩, .string ⟨#[]⟩, .string ⟨#[]⟩, .string ⟨#[]⟩, .slice none 0 0, .int .i64 0, .int .i64 0, .string ⟨#[]⟩] 40) z1).trans R1.out
    have r2 := (hb2.block _ (by simp; omega)).trans r1
    have l2 := (hb2.block _ (by simp)).trans (heap_new w1 (.cells #[.int .i64 (1 + o), .string ⟨#[]⟩, .string ⟨#[]⟩, .string ⟨#[]⟩, .string ⟨#[]⟩, .slice none 0 0, .int .i64 0, .int .i64 0, .string ⟨#[]⟩] 40))
    have y2 := sizeB l2
    have n2 : NumAt L A cp b K1 w2 := (N1.out.below ((Below.refl _ _).alloc (Nat.le_refl _) _)).below hb2
    have t2 : NumW b w w2 := (W1.out.trans a1).trans (NumW.of_below hb2 (by simp; omega))
    have b3 : Below w2.heap.size w2 ((w2.alloc (.cells (shc (shows (1 + o))) 111)).alloc (.cells (flc [] 0) 113)) := ((Below.refl _ _).alloc (Nat.le_refl _) _).alloc (by simp) _
    exact ⟨(b3.block _ (by omega)).trans r2, (b3.block _ y2).trans l2, (heap_alloc_old _ _ (by simp)).trans (heap_new _ _), heap_new' _ _ _ (by simp), n2.below b3, t2.trans (NumW.of_below b3 (by omega)), hk1⟩
  generalize hop : 1 + o = op at *
  have op1 : 1 ≤ op := by omega
  have op42 : op ≤ 42 := by omega
  clear hop o0 o1
  have HM := Lib.hid hm
  have h3 : w.heap.size ≤ w1.heap.size := by omega
  have y2 : w1.heap.size < w2.heap.size := by have := hb2.size; simp at this; omega
  have h4 : w.heap.size ≤ w2.heap.size := by omega
  clear hm hb2
  go_wp2_with fail
  go_loopw [6] (fun i wr => ∃ k : Nat, k ≤ 4 ∧ i = .int .i64 k ∧ MSt L A cp b w w1.heap.size w2.heap.size (w2.heap.size + 1) #[.int .i64 op, .string ⟨#[]⟩, .string ⟨#[]⟩, .string ⟨#[]⟩, .string ⟨#[]⟩, .slice none 0 0, .int .i64 0, .int .i64 0, .string ⟨#[]⟩] (shc (shows op))
      (flc (fieldsS L (shAt (shows op)) K1 k).1 k) (fieldsS L (shAt (shows op)) K1 k).2 wr) (fun i _ => 4 - (intOf i).toNat)
  case atStart => exact ⟨0, Nat.zero_le _, rfl, HM.out⟩
  case round =>
    clear HM
    obtain ⟨k, hk, rfl, hS⟩ := hrel
    have MS := Lib.hid hS
    clear hS
    by_cases hlt : k < 4
    · have hsh : wr.cell? ⟨w2.heap.size, k, none⟩ = some (.bool (shAt (shows op) k)) := cellB MS.out.s k (shc_at _ _ hlt)
      have hfs : Hid (fieldsS L (shAt (shows op)) K1 (k + 1) = if shAt (shows op) k = true then ((fieldsS L (shAt (shows op)) K1 k).1 ++ [wordN (nxtS L (fieldsS L (shAt (shows op)) K1 k).2 8).1], (nxtS L (fieldsS L (shAt (shows op)) K1 k).2 8).2) else ((fieldsS L (shAt (shows op)) K1 k).1 ++ [[]], (fieldsS L (shAt (shows op)) K1 k).2)) := Lib.hid rfl
      have hfl := fieldsS_len L (shAt (shows op)) K1 k
      generalize fieldsS L (shAt (shows op)) K1 k = fk at *
      obtain ⟨fl, Kk⟩ := fk
      dsimp only at MS hfl
      have HFL := Lib.hid hfl
      clear hfl
      cases hb : shAt (shows op) k with
      | false =>
        rw [hb] at hsh
        have HB := Lib.hid hb
        clear hb
        go_wp2_with fail
        refine ⟨⟨k + 1, hlt, rfl, ?_⟩, by simp [intOf]; omega⟩
        rw [hfs.out, HB.out, if_neg (by simp), ← flc_skip _ _ hlt]
        exact MS.out
      | true =>
        rw [hb] at hsh
        have HB := Lib.hid hb
        clear hb
        go_wp2_with fail
        refine (next_calls L A cp b Kk 8 _ MS.out.n (HA.out.below MS.out.t.u) (by omega) hL MS.out.kl).mono ?_
        rintro e w3 ⟨rfl, hN, hT⟩
        have MS2 := Lib.hid (MS.out.next hbw h3 h4 (by omega) hN hT (nxt_le _ _ _ MS.out.kl))
        clear hN hT hsh
        go_wp2_with fail
        refine (word_calls _ _).mono ?_
        rintro e w4 ⟨rfl, hb4⟩
        have MS3 := Lib.hid (MS2.out.below hb4 hbw)
        clear hb4
        have c5 : w4.cell? ⟨w2.heap.size + 1, k, none⟩ = some (.string ⟨#[]⟩) := cellB MS3.out.f k (flc_at _ _ HFL.out hlt)
        have q5 := frozenB MS3.out.f k
        go_wp2_with fail
        refine ⟨⟨k + 1, hlt, rfl, ?_⟩, by simp [intOf]; omega⟩
        rw [hfs.out, HB.out, if_pos rfl, ← flc_set _ _ HFL.out hlt]
        exact MS3.out.setf (by omega) (by omega) (by omega) (by omega) (by omega) _
    · have hk4 : k = 4 := by omega
      subst hk4
      have hfl := fieldsS_len L (shAt (shows op)) K1 4
      generalize fieldsS L (shAt (shows op)) K1 4 = fk at *
      obtain ⟨fl, K4⟩ := fk
      dsimp only at MS hfl HML
      obtain ⟨x0, x1, x2, x3, rfl⟩ : ∃ x0 x1 x2 x3, fl = [x0, x1, x2, x3] := by
        match fl, hfl with
        | [a, b, c, d], _ => exact ⟨a, b, c, d, rfl⟩
      clear hfl hk hlt
      have g0 : wr.cell? ⟨w2.heap.size + 1, 0, none⟩ = some (.string ⟨x0.toArray⟩) := cellB MS.out.f 0 rfl
      have g1 : wr.cell? ⟨w2.heap.size + 1, 1, none⟩ = some (.string ⟨x1.toArray⟩) := cellB MS.out.f 1 rfl
      have g2 : wr.cell? ⟨w2.heap.size + 1, 2, none⟩ = some (.string ⟨x2.toArray⟩) := cellB MS.out.f 2 rfl
      have g3 : wr.cell? ⟨w2.heap.size + 1, 3, none⟩ = some (.string ⟨x3.toArray⟩) := cellB MS.out.f 3 rfl
      have l0 : wr.cell? ⟨w1.heap.size, 0, none⟩ = some (.int .i64 op) := cellB MS.out.l 0 rfl
      have l1 : wr.cell? ⟨w1.heap.size, 1, none⟩ = some (.string ⟨#[]⟩) := cellB MS.out.l 1 rfl
      have l2 : wr.cell? ⟨w1.heap.size, 2, none⟩ = some (.string ⟨#[]⟩) := cellB MS.out.l 2 rfl
      have l3 : wr.cell? ⟨w1.heap.size, 3, none⟩ = some (.string ⟨#[]⟩) := cellB MS.out.l 3 rfl
      have l4 : wr.cell? ⟨w1.heap.size, 4, none⟩ = some (.string ⟨#[]⟩) := cellB MS.out.l 4 rfl
      have q1 := frozenB MS.out.l 1
      have q2 := frozenB MS.out.l 2
      have q3 := frozenB MS.out.l 3
      have q4 := frozenB MS.out.l 4
      have n12 : ¬ w1.heap.size = w2.heap.size + 1 := by omega
      have n21 : ¬ w2.heap.size + 1 = w1.heap.size := by omega
      have MS4 : Hid (MSt L A cp b w w1.heap.size w2.heap.size (w2.heap.size + 1) #[.int .i64 op, sv x0, sv x1, sv x2, sv x3, .slice none 0 0, .int .i64 0, .int .i64 0, .string ⟨#[]⟩] (shc (shows op)) (flc [x0, x1, x2, x3] 4) K4 ((((wr.setCell ⟨w1.heap.size, 1, none⟩ (.string ⟨x0.toArray⟩)).setCell ⟨w1.heap.size, 2, none⟩ (.string ⟨x1.toArray⟩)).setCell ⟨w1.heap.size, 3, none⟩ (.string ⟨x2.toArray⟩)).setCell ⟨w1.heap.size, 4, none⟩ (.string ⟨x3.toArray⟩))) :=
        Lib.hid (MSt.setl (i := 4) (MSt.setl (i := 3) (MSt.setl (i := 2) (MSt.setl (i := 1) MS.out hbw z1 (by omega) (by omega) (.string ⟨x0.toArray⟩)) hbw z1 (by omega) (by omega) (.string ⟨x1.toArray⟩)) hbw z1 (by omega) (by omega) (.string ⟨x2.toArray⟩)) hbw z1 (by omega) (by omega) (.string ⟨x3.toArray⟩))
      simp only [List.getD_cons_zero, List.getD_cons_succ] at HML
      go_upto_region 13 with fail
      generalize ((((wr.setCell ⟨w1.heap.size, 1, none⟩ (.string ⟨x0.toArray⟩)).setCell ⟨w1.heap.size, 2, none⟩ (.string ⟨x1.toArray⟩)).setCell ⟨w1.heap.size, 3, none⟩ (.string ⟨x2.toArray⟩)).setCell ⟨w1.heap.size, 4, none⟩ (.string ⟨x3.toArray⟩)) = X at MS4 ⊢
      clear g0 g1 g2 g3 l0 l1 l2 l3 l4 q1 q2 q3 q4 MS
      have hops : op = 1 ∨ op = 32 ∨ (op = 22 ∨ op = 23 ∨ op = 24 ∨ op = 25) ∨ (op ≠ 1 ∧ op ≠ 32 ∧ op ≠ 22 ∧ op ≠ 23 ∧ op ≠ 24 ∧ op ≠ 25) := by omega
      rcases hops with rfl | rfl | hops | hops
      · have l0 : X.cell? ⟨w1.heap.size, 0, none⟩ = some (.int .i64 1) := cellB MS4.out.l 0 rfl
        go_wp2_with fail
        refine (next_calls L A cp b K4 200 _ MS4.out.n (HA.out.below MS4.out.t.u) (by omega) hL MS4.out.kl).mono ?_
        rintro e w5 ⟨rfl, hN, hT⟩
        have M5 := Lib.hid (MS4.out.next hbw h3 h4 (by omega) hN hT (nxt_le _ _ _ MS4.out.kl))
        have hr9 := nxtS_range L K4 200 (by omega)
        have hcv : lineCv L K4 1 = (constV (nxtS L K4 200).1, (nxtS L K4 200).2) := if_pos rfl
        rw [hcv] at HML
        dsimp only at HML
        clear hN hT hcv l0
        generalize (nxtS L K4 200).2 = KC at *
        generalize (nxtS L K4 200).1 = n2 at *
        go_wp2_with fail
        refine (const_calls n2 _ hr9.1 (by omega)).mono ?_
        rintro e w6 ⟨rfl, hb6⟩
        have M6 := Lib.hid (M5.out.below hb6 hbw)
        clear hb6 hr9
        generalize constV n2 = cv at *
        have l6 : w6.cell? ⟨w1.heap.size, 6, none⟩ = some (.int .i64 0) := cellB M6.out.l 6 rfl
        have q6 := frozenB M6.out.l 6
        have l7 : w6.cell? ⟨w1.heap.size, 7, none⟩ = some (.int .i64 0) := cellB M6.out.l 7 rfl
        have q7 := frozenB M6.out.l 7
        have l8 : w6.cell? ⟨w1.heap.size, 8, none⟩ = some (.string ⟨#[]⟩) := cellB M6.out.l 8 rfl
        have q8 := frozenB M6.out.l 8
        have l0 : w6.cell? ⟨w1.heap.size, 0, none⟩ = some (.int .i64 1) := cellB M6.out.l 0 rfl
        have MC : Hid (MSt L A cp b w w1.heap.size w2.heap.size (w2.heap.size + 1) #[.int .i64 1, sv x0, sv x1, sv x2, sv x3, .slice none 0 0, .int .i64 cv.k, .int .i64 cv.n, .string ⟨cv.s.toArray⟩] (shc (shows 1)) (flc [x0, x1, x2, x3] 4) KC (((w6.setCell ⟨w1.heap.size, 6, none⟩ (.int .i64 cv.k)).setCell ⟨w1.heap.size, 7, none⟩ (.int .i64 cv.n)).setCell ⟨w1.heap.size, 8, none⟩ (.string ⟨cv.s.toArray⟩))) :=
          Lib.hid (MSt.setl (i := 8) (MSt.setl (i := 7) (MSt.setl (i := 6) M6.out hbw z1 (by omega) (by omega) (.int .i64 cv.k)) hbw z1 (by omega) (by omega) (.int .i64 cv.n)) hbw z1 (by omega) (by omega) (.string ⟨cv.s.toArray⟩))
        go_upto_region 15 with fail
        generalize (((w6.setCell ⟨w1.heap.size, 6, none⟩ (.int .i64 cv.k)).setCell ⟨w1.heap.size, 7, none⟩ (.int .i64 cv.n)).setCell ⟨w1.heap.size, 8, none⟩ (.string ⟨cv.s.toArray⟩)) = Y at MC ⊢
        clear l0 l6 l7 l8 q6 q7 q8
        have hla : lineArgs L KC 1 = ([], KC) := rfl
        have l0 : Y.cell? ⟨w1.heap.size, 0, none⟩ = some (.int .i64 1) := cellB MC.out.l 0 rfl
        have l1 : Y.cell? ⟨w1.heap.size, 1, none⟩ = some (.string ⟨x0.toArray⟩) := cellB MC.out.l 1 rfl
        have l2 : Y.cell? ⟨w1.heap.size, 2, none⟩ = some (.string ⟨x1.toArray⟩) := cellB MC.out.l 2 rfl
        have l3 : Y.cell? ⟨w1.heap.size, 3, none⟩ = some (.string ⟨x2.toArray⟩) := cellB MC.out.l 3 rfl
        have l4 : Y.cell? ⟨w1.heap.size, 4, none⟩ = some (.string ⟨x3.toArray⟩) := cellB MC.out.l 4 rfl
        have l5 : Y.cell? ⟨w1.heap.size, 5, none⟩ = some (.slice none 0 0) := cellB MC.out.l 5 rfl
        have l6 : Y.cell? ⟨w1.heap.size, 6, none⟩ = some (.int .i64 cv.k) := cellB MC.out.l 6 rfl
        have l7 : Y.cell? ⟨w1.heap.size, 7, none⟩ = some (.int .i64 cv.n) := cellB MC.out.l 7 rfl
        have l8 : Y.cell? ⟨w1.heap.size, 8, none⟩ = some (.string ⟨cv.s.toArray⟩) := cellB MC.out.l 8 rfl
        have p0 : Y.cell? ⟨w.heap.size, 0, none⟩ = some (.int .i64 0) := cellB MC.out.r 0 rfl
        have u0' := frozenB MC.out.r 0
        have p1 : Y.cell? ⟨w.heap.size, 1, none⟩ = some (.string ⟨#[]⟩) := cellB MC.out.r 1 rfl
        have u1' := frozenB MC.out.r 1
        have p2 : Y.cell? ⟨w.heap.size, 2, none⟩ = some (.string ⟨#[]⟩) := cellB MC.out.r 2 rfl
        have u2' := frozenB MC.out.r 2
        have p3 : Y.cell? ⟨w.heap.size, 3, none⟩ = some (.string ⟨#[]⟩) := cellB MC.out.r 3 rfl
        have u3' := frozenB MC.out.r 3
        have p4 : Y.cell? ⟨w.heap.size, 4, none⟩ = some (.string ⟨#[]⟩) := cellB MC.out.r 4 rfl
        have u4' := frozenB MC.out.r 4
        have p5 : Y.cell? ⟨w.heap.size, 5, none⟩ = some (.slice none 0 0) := cellB MC.out.r 5 rfl
        have u5' := frozenB MC.out.r 5
        have p6 : Y.cell? ⟨w.heap.size, 6, none⟩ = some (.int .i64 0) := cellB MC.out.r 6 rfl
        have u6' := frozenB MC.out.r 6
        have p7 : Y.cell? ⟨w.heap.size, 7, none⟩ = some (.int .i64 0) := cellB MC.out.r 7 rfl
        have u7' := frozenB MC.out.r 7
        have p8 : Y.cell? ⟨w.heap.size, 8, none⟩ = some (.string ⟨#[]⟩) := cellB MC.out.r 8 rfl
        have u8' := frozenB MC.out.r 8
        have nz1 : ¬ w1.heap.size = w.heap.size := by omega
        have nz2 : ¬ w.heap.size = w1.heap.size := by omega
        go_wp2_with fail
        obtain ⟨f1, f2, f3, f4⟩ := MC.out.put9 hbw (own_nil _ _ _ _) (v0 := .int .i64 1) (v1 := .string ⟨x0.toArray⟩) (v2 := .string ⟨x1.toArray⟩) (v3 := .string ⟨x2.toArray⟩) (v4 := .string ⟨x3.toArray⟩) (v5 := .slice none 0 0) (v6 := .int .i64 cv.k) (v7 := .int .i64 cv.n) (v8 := .string ⟨cv.s.toArray⟩)
        refine bodyPost_ret (v := .agg #[.int .i64 1, .string ⟨x0.toArray⟩, .string ⟨x1.toArray⟩, .string ⟨x2.toArray⟩, .string ⟨x3.toArray⟩, .slice none 0 0, .int .i64 cv.k, .int .i64 cv.n, .string ⟨cv.s.toArray⟩]) (results_ln rfl rfl (blk_put9 MC.out.r) (by simp [Value.oneCell'])) rfl ?_
        unfold MLineOut
        rw [HML.out]
        rw [hla]
        exact ⟨none, 0, by rfl, f1, f2, f3, f4⟩
      · have l0 : X.cell? ⟨w1.heap.size, 0, none⟩ = some (.int .i64 32) := cellB MS4.out.l 0 rfl
        go_wp2_with fail
        refine (next_calls L A cp b K4 8 _ MS4.out.n (HA.out.below MS4.out.t.u) (by omega) hL MS4.out.kl).mono ?_
        rintro e w5 ⟨rfl, hN, hT⟩
        have M5 := Lib.hid (MS4.out.next hbw h3 h4 (by omega) hN hT (nxt_le _ _ _ MS4.out.kl))
        have hr9 := nxtS_range L K4 8 (by omega)
        have hcv : lineCv L K4 32 = (⟨3, (nxtS L K4 8).1 - 2, []⟩, (nxtS L K4 8).2) := rfl
        rw [hcv] at HML
        dsimp only at HML
        clear hN hT hcv l0
        generalize (nxtS L K4 8).2 = KC at *
        generalize (nxtS L K4 8).1 = n2 at *
        obtain ⟨hr90, hr91⟩ := hr9
        have l6 : w5.cell? ⟨w1.heap.size, 6, none⟩ = some (.int .i64 0) := cellB M5.out.l 6 rfl
        have q6 := frozenB M5.out.l 6
        have l7 : w5.cell? ⟨w1.heap.size, 7, none⟩ = some (.int .i64 0) := cellB M5.out.l 7 rfl
        have q7 := frozenB M5.out.l 7
        have l8 : w5.cell? ⟨w1.heap.size, 8, none⟩ = some (.string ⟨#[]⟩) := cellB M5.out.l 8 rfl
        have q8 := frozenB M5.out.l 8
        have l0 : w5.cell? ⟨w1.heap.size, 0, none⟩ = some (.int .i64 32) := cellB M5.out.l 0 rfl
        have MC : Hid (MSt L A cp b w w1.heap.size w2.heap.size (w2.heap.size + 1) #[.int .i64 32, sv x0, sv x1, sv x2, sv x3, .slice none 0 0, .int .i64 3, .int .i64 (n2 - 2), .string ⟨#[]⟩] (shc (shows 32)) (flc [x0, x1, x2, x3] 4) KC (((w5.setCell ⟨w1.heap.size, 6, none⟩ (.int .i64 3)).setCell ⟨w1.heap.size, 7, none⟩ (.int .i64 (n2 - 2))).setCell ⟨w1.heap.size, 8, none⟩ (.string ⟨#[]⟩))) :=
          Lib.hid (MSt.setl (i := 8) (MSt.setl (i := 7) (MSt.setl (i := 6) M5.out hbw z1 (by omega) (by omega) (.int .i64 3)) hbw z1 (by omega) (by omega) (.int .i64 (n2 - 2))) hbw z1 (by omega) (by omega) (.string ⟨#[]⟩))
        go_upto_region 17 with fail
        generalize (((w5.setCell ⟨w1.heap.size, 6, none⟩ (.int .i64 3)).setCell ⟨w1.heap.size, 7, none⟩ (.int .i64 (n2 - 2))).setCell ⟨w1.heap.size, 8, none⟩ (.string ⟨#[]⟩)) = Y at MC ⊢
        clear l0 l6 l7 l8 q6 q7 q8
        have l0 : Y.cell? ⟨w1.heap.size, 0, none⟩ = some (.int .i64 32) := cellB MC.out.l 0 rfl
        have q0 := frozenB MC.out.l 0
        go_wp2_with fail
        refine (next_calls L A cp b KC 9 _ MC.out.n (HA.out.below MC.out.t.u) (by omega) hL MC.out.kl).mono ?_
        rintro e w5 ⟨rfl, hN, hT⟩
        have M5 := Lib.hid (MC.out.next hbw h3 h4 (by omega) hN hT (nxt_le _ _ _ MC.out.kl))
        have hr9 := nxtS_range L KC 9 (by omega)
        have hla : lineArgs L KC 32 = wordsS' L (nxtS L KC 9).2 (nxtS L KC 9).1.toNat := if_pos rfl
        rw [hla] at HML
        clear hN hT hla
        generalize (nxtS L KC 9).2 = K6 at *
        generalize (nxtS L KC 9).1 = n9 at *
        obtain ⟨nn, rfl⟩ : ∃ nn : Nat, n9 = nn := ⟨n9.toNat, by omega⟩
        rw [Int.toNat_natCast] at HML
        have hnn : nn < 9 := by omega
        clear hr9 l0 q0
        obtain ⟨i0, hi, hz0, hz1, hz2⟩ := info_parts info9s
        go_wp2_with fail
        go_loopw [8] (fun i wr => ∃ (j : Nat) (A' : Option Addr) (cp' : Nat), j ≤ nn ∧ i = .int .i64 j ∧ MSt L A cp b w w1.heap.size w2.heap.size (w2.heap.size + 1) #[.int .i64 32, sv x0, sv x1, sv x2, sv x3, (.slice A' j cp'), .int .i64 3, .int .i64 (n2 - 2), .string ⟨#[]⟩] (shc (shows 32)) (flc [x0, x1, x2, x3] 4) (wordsS' L K6 j).2 wr ∧ wr.ownsRow w.heap.size 9 1 (.slice A' j cp') j (strs (wordsS' L K6 j).1)) (fun i _ => nn - (intOf i).toNat)
        case atStart => exact ⟨0, none, 0, Nat.zero_le _, rfl, M5.out, own_nil _ _ _ _⟩
        case round =>
          clear M5
          obtain ⟨j, A2, cp2, hj, rfl, hS, hO⟩ := hrel
          have MJ := Lib.hid hS
          have OJ := Lib.hid hO
          clear hS hO
          by_cases hjl : j < nn
          · have hws : Hid (wordsS' L K6 (j + 1) = ((wordsS' L K6 j).1 ++ [wordN (nxtS L (wordsS' L K6 j).2 8).1], (nxtS L (wordsS' L K6 j).2 8).2)) := Lib.hid rfl
            have hwl := wordsS'_len L K6 j
            generalize wordsS' L K6 j = wj at *
            obtain ⟨ws, Kj⟩ := wj
            dsimp only at MJ OJ hws hwl
            have HWL := Lib.hid hwl
            clear hwl
            have DM : Hid (MSt L A cp b w w1.heap.size w2.heap.size (w2.heap.size + 1) #[.int .i64 32, sv x0, sv x1, sv x2, sv x3, (.slice A2 j cp2), .int .i64 3, .int .i64 (n2 - 2), .string ⟨#[]⟩] (shc (shows 32)) (flc [x0, x1, x2, x3] 4) Kj wr.drew) := Lib.hid (MJ.out.below ⟨rfl, rfl, rfl, Nat.le_refl _, fun _ _ => rfl⟩ hbw)
            have DO := Lib.hid OJ.out.drew
            have e5 : wr.drew.cell? ⟨w1.heap.size, 5, none⟩ = some (.slice A2 j cp2) := cellB DM.out.l 5 rfl
            have hj100 : j ≤ 100 := by omega
            go_wp2_with fail
            refine start_ (n := 9) (S := fun w' => w'.cell? ⟨w1.heap.size, 5, none⟩ = some (.slice A2 j cp2)) (ds := [8]) #[false, false, false, false, false, false, false, false, false] (by kernel_rfl) rfl rfl e5 (fun hHeld => ?_)
            generalize wr.drew = W at DM DO e5 hHeld ⊢
            refine pure_ (i := 0) (N := some 86) (v := ?_) (a' := ?_) #[true, false, false, false, false, false, false, false, false] rfl rfl (by kernel_rfl) (fun _ _ _ h => h) (Or.inl ⟨by rfl, ?_⟩) ?_ ?_
            rotate_left
            · intro w'
              go_simp
              with_reducible rfl
            rotate_left
            · simp only [Act.put, List.setIfInBounds_toArray, List.set_cons_zero, List.set_cons_succ]
              rfl
            refine take_ (i := 1) (N := some 87) (v := ?_) (a' := ?_) #[true, true, false, false, false, false, false, false, false] rfl rfl (by kernel_rfl) (fun _ _ _ h => h) (Or.inl ⟨by rfl, ?_⟩) hHeld ?_ ?_
            rotate_left
            · rintro w' s0
              go_simp
              with_reducible rfl
            rotate_left
            · simp only [Act.put, List.setIfInBounds_toArray, List.set_cons_zero, List.set_cons_succ]
              rfl
            refine pure_ (i := 2) (N := some 88) (v := ?_) (a' := ?_) #[true, true, true, false, false, false, false, false, false] rfl rfl (by kernel_rfl) (fun _ _ _ h => h) (Or.inl ⟨by rfl, ?_⟩) ?_ ?_
            rotate_left
            · intro w'
              go_simp
              with_reducible rfl
            rotate_left
            · simp only [Act.put, List.setIfInBounds_toArray, List.set_cons_zero, List.set_cons_succ]
              rfl
            refine one_ (i := 3) (N := some 89) #[true, true, true, true, false, false, false, false, false] rfl rfl (by kernel_rfl) (by simp) (fun K hK => ?_)
            refine goes_ Tryz.func39 (by kernel_rfl) rfl #[.pointer (some ⟨b, 0, none⟩), .int .i64 8] rfl rfl rfl (by simp only [List.map_toArray, List.map_cons, List.map_nil]; rfl) ?_
            refine (next_calls L A cp b Kj 8 W DM.out.n (HA.out.below DM.out.t.u) (by omega) hL DM.out.kl).mono ?_
            rintro e W3 ⟨rfl, hN, hT⟩
            have M3 := Lib.hid (DM.out.next hbw h3 h4 (by omega) hN hT (nxt_le _ _ _ DM.out.kl))
            have O3 := Lib.hid ((TKeep.of_num DM.out.n hT).own (by simp) DO.out)
            have e53 : W3.cell? ⟨w1.heap.size, 5, none⟩ = some (.slice A2 j cp2) := cellB M3.out.l 5 rfl
            clear hN hT
            refine ⟨_, rfl, ?_⟩
            refine hK.out _ _ e53 (fun hHeld => ?_)
            refine one_ (i := 4) (N := some 90) #[true, true, true, true, true, false, false, false, false] rfl rfl (by kernel_rfl) (by simp) (fun K hK => ?_)
            refine goes_ Tryz.func40 (by kernel_rfl) rfl #[.int .i64 (nxtS L Kj 8).1] rfl rfl rfl (by simp only [List.map_toArray, List.map_cons, List.map_nil]; rfl) ?_
            refine (word_calls _ _).mono ?_
            rintro e W4 ⟨rfl, hb4⟩
            have M4 := Lib.hid (M3.out.below hb4 hbw)
            have O4 := Lib.hid ((TKeep.below (T := []) hb4).own (by simp) O3.out)
            have e54 : W4.cell? ⟨w1.heap.size, 5, none⟩ = some (.slice A2 j cp2) := cellB M4.out.l 5 rfl
            have eB := sizeB M4.out.l
            have eW := M4.out.t.u.size
            clear hb4
            refine ⟨_, rfl, ?_⟩
            refine hK.out _ _ e54 (fun hHeld => ?_)
            refine one_ (i := 5) (N := some 91) #[true, true, true, true, true, true, false, false, false] rfl rfl (by kernel_rfl) (by simp) (fun K hK => ?_)
            refine value_ (v := .slice (some ⟨W4.heap.size, 0, none⟩) 1 1) (w1 := W4.alloc (.cells #[.string ⟨(wordN (nxtS L Kj 8).1).toArray⟩] 9)) rfl rfl (by go_simp) ?_
            refine hK.out _ _ ((World.cell?_alloc_past _ _ _ eB).trans hHeld) (fun hHeld => ?_)
            refine one_ (i := 6) (N := some 92) #[true, true, true, true, true, true, true, false, false] rfl rfl (by kernel_rfl) (by simp) (fun K hK => ?_)
            refine step_append_lies (W4.alloc (.cells #[.string ⟨(wordN (nxtS L Kj 8).1).toArray⟩] 9)) (by rfl) _ _ _ (by rfl) w.heap.size 9 i0 _ 1 16 Tryz.underlying34 hi hz0 hz1 hz2 rfl (by omega) (.slice A2 j cp2) j (strs ws) (by rfl) (O4.out.alloc _) ⟨W4.heap.size, 0, none⟩ 1 1 [.string ⟨(wordN (nxtS L Kj 8).1).toArray⟩] (by rfl) (by rfl) (World.news_of_block (cs := #[.string ⟨(wordN (nxtS L Kj 8).1).toArray⟩]) (t := 9) (fr := (0, 0)) (heap_alloc_new W4 _)) (by simp [Value.oneCell']) (by omega) (by unfold maxLen; omega) (by omega) (by have := M4.out.t.u.size; have := M4.out.r; have := sizeB this; simp; omega) (W4.heap.size + 1) (by simp) ?_
            intro gg cap w5' hown3 hgrow hat hlt3
            have M6 := Lib.hid ((M4.out.below ((Below.refl _ _).alloc (Nat.le_refl _) _) hbw).grown hbw (O4.out.alloc _) hgrow)
            have O6 := Lib.hid hown3
            change K (Act.put _ (some 92) _) w5'
            have u5 : w5'.cell? ⟨w1.heap.size, 5, none⟩ = _ := cellB M6.out.l 5 rfl
            have v5 := frozenB M6.out.l 5
            clear hown3 hgrow hat
            refine hK.out _ _ u5 (fun hHeld => ?_)
            refine pure_ (i := 7) (N := some 93) (v := ?_) (a' := ?_) #[true, true, true, true, true, true, true, true, false] rfl rfl (by kernel_rfl) (fun _ _ _ h => h) (Or.inl ⟨by rfl, ?_⟩) ?_ ?_
            rotate_left
            · intro w'
              go_simp
              with_reducible rfl
            rotate_left
            · simp only [Act.put, List.setIfInBounds_toArray, List.set_cons_zero, List.set_cons_succ]
              rfl
            refine last_ (i := 8) (N := none) #[true, true, true, true, true, true, true, true, true] rfl rfl (by kernel_rfl) (by simp) (fun K hK => ?_)
            refine skip_ (w1 := w5'.setCell ⟨w1.heap.size, 5, none⟩ (.slice (some ⟨gg, 0, none⟩) (j + 1) cap)) rfl rfl (by go_simp) ?_
            refine hK.out _ _ ?_
            refine done_ (by kernel_rfl) ?_
            go_wp2_with fail
            refine ⟨⟨j + 1, some ⟨gg, 0, none⟩, cap, hjl, rfl, ?_, ?_⟩, by simp [intOf]; omega⟩
            · rw [hws.out]
              exact M6.out.setl (i := 5) hbw z1 (by omega) (by omega) _
            · rw [hws.out]
              have h := own_set' (i := 5) O6.out (own_ne O6.out M6.out.l (by decide)) (Value.slice (some ⟨gg, 0, none⟩) (j + 1) cap)
              simpa [strs, sv] using h
          · have hjn : j = nn := by omega
            subst hjn
            have hwl := wordsS'_len L K6 j
            generalize wordsS' L K6 j = wj at *
            obtain ⟨ws, Kj⟩ := wj
            dsimp only at MJ OJ HML hwl
            subst hwl
            have l0 : wr.cell? ⟨w1.heap.size, 0, none⟩ = some (.int .i64 32) := cellB MJ.out.l 0 rfl
            have l1 : wr.cell? ⟨w1.heap.size, 1, none⟩ = some (.string ⟨x0.toArray⟩) := cellB MJ.out.l 1 rfl
            have l2 : wr.cell? ⟨w1.heap.size, 2, none⟩ = some (.string ⟨x1.toArray⟩) := cellB MJ.out.l 2 rfl
            have l3 : wr.cell? ⟨w1.heap.size, 3, none⟩ = some (.string ⟨x2.toArray⟩) := cellB MJ.out.l 3 rfl
            have l4 : wr.cell? ⟨w1.heap.size, 4, none⟩ = some (.string ⟨x3.toArray⟩) := cellB MJ.out.l 4 rfl
            have l5 : wr.cell? ⟨w1.heap.size, 5, none⟩ = some (.slice A2 ws.length cp2) := cellB MJ.out.l 5 rfl
            have l6 : wr.cell? ⟨w1.heap.size, 6, none⟩ = some (.int .i64 3) := cellB MJ.out.l 6 rfl
            have l7 : wr.cell? ⟨w1.heap.size, 7, none⟩ = some (.int .i64 (n2 - 2)) := cellB MJ.out.l 7 rfl
            have l8 : wr.cell? ⟨w1.heap.size, 8, none⟩ = some (.string ⟨#[]⟩) := cellB MJ.out.l 8 rfl
            have p0 : wr.cell? ⟨w.heap.size, 0, none⟩ = some (.int .i64 0) := cellB MJ.out.r 0 rfl
            have u0' := frozenB MJ.out.r 0
            have p1 : wr.cell? ⟨w.heap.size, 1, none⟩ = some (.string ⟨#[]⟩) := cellB MJ.out.r 1 rfl
            have u1' := frozenB MJ.out.r 1
            have p2 : wr.cell? ⟨w.heap.size, 2, none⟩ = some (.string ⟨#[]⟩) := cellB MJ.out.r 2 rfl
            have u2' := frozenB MJ.out.r 2
            have p3 : wr.cell? ⟨w.heap.size, 3, none⟩ = some (.string ⟨#[]⟩) := cellB MJ.out.r 3 rfl
            have u3' := frozenB MJ.out.r 3
            have p4 : wr.cell? ⟨w.heap.size, 4, none⟩ = some (.string ⟨#[]⟩) := cellB MJ.out.r 4 rfl
            have u4' := frozenB MJ.out.r 4
            have p5 : wr.cell? ⟨w.heap.size, 5, none⟩ = some (.slice none 0 0) := cellB MJ.out.r 5 rfl
            have u5' := frozenB MJ.out.r 5
            have p6 : wr.cell? ⟨w.heap.size, 6, none⟩ = some (.int .i64 0) := cellB MJ.out.r 6 rfl
            have u6' := frozenB MJ.out.r 6
            have p7 : wr.cell? ⟨w.heap.size, 7, none⟩ = some (.int .i64 0) := cellB MJ.out.r 7 rfl
            have u7' := frozenB MJ.out.r 7
            have p8 : wr.cell? ⟨w.heap.size, 8, none⟩ = some (.string ⟨#[]⟩) := cellB MJ.out.r 8 rfl
            have u8' := frozenB MJ.out.r 8
            have nz1 : ¬ w1.heap.size = w.heap.size := by omega
            have nz2 : ¬ w.heap.size = w1.heap.size := by omega
            go_wp2_with fail
            obtain ⟨f1, f2, f3, f4⟩ := MJ.out.put9 hbw OJ.out (v0 := .int .i64 32) (v1 := .string ⟨x0.toArray⟩) (v2 := .string ⟨x1.toArray⟩) (v3 := .string ⟨x2.toArray⟩) (v4 := .string ⟨x3.toArray⟩) (v5 := .slice A2 ws.length cp2) (v6 := .int .i64 3) (v7 := .int .i64 (n2 - 2)) (v8 := .string ⟨#[]⟩)
            refine bodyPost_ret (v := .agg #[.int .i64 32, .string ⟨x0.toArray⟩, .string ⟨x1.toArray⟩, .string ⟨x2.toArray⟩, .string ⟨x3.toArray⟩, .slice A2 ws.length cp2, .int .i64 3, .int .i64 (n2 - 2), .string ⟨#[]⟩]) (results_ln rfl rfl (blk_put9 MJ.out.r) (by simp [Value.oneCell'])) rfl ?_
            unfold MLineOut
            rw [HML.out]
            exact ⟨A2, cp2, by rfl, f1, f2, f3, f4⟩
      · rcases hops with rfl | rfl | rfl | rfl
        · have l0 : X.cell? ⟨w1.heap.size, 0, none⟩ = some (.int .i64 22) := cellB MS4.out.l 0 rfl
          have q0 := frozenB MS4.out.l 0
          have hcv : lineCv L K4 22 = (Val.zero, K4) := rfl
          rw [hcv] at HML
          dsimp only at HML
          clear hcv
          go_wp2_with fail
          refine (next_calls L A cp b K4 9 _ MS4.out.n (HA.out.below MS4.out.t.u) (by omega) hL MS4.out.kl).mono ?_
          rintro e w5 ⟨rfl, hN, hT⟩
          have M5 := Lib.hid (MS4.out.next hbw h3 h4 (by omega) hN hT (nxt_le _ _ _ MS4.out.kl))
          have hr9 := nxtS_range L K4 9 (by omega)
          have hla : lineArgs L K4 22 = wordsS' L (nxtS L K4 9).2 (nxtS L K4 9).1.toNat := if_pos rfl
          rw [hla] at HML
          clear hN hT hla
          generalize (nxtS L K4 9).2 = K6 at *
          generalize (nxtS L K4 9).1 = n9 at *
          obtain ⟨nn, rfl⟩ : ∃ nn : Nat, n9 = nn := ⟨n9.toNat, by omega⟩
          rw [Int.toNat_natCast] at HML
          have hnn : nn < 9 := by omega
          clear hr9 l0 q0
          obtain ⟨i0, hi, hz0, hz1, hz2⟩ := info_parts info9s
          go_wp2_with fail
          go_loopw [8] (fun i wr => ∃ (j : Nat) (A' : Option Addr) (cp' : Nat), j ≤ nn ∧ i = .int .i64 j ∧ MSt L A cp b w w1.heap.size w2.heap.size (w2.heap.size + 1) #[.int .i64 22, sv x0, sv x1, sv x2, sv x3, (.slice A' j cp'), .int .i64 0, .int .i64 0, .string ⟨#[]⟩] (shc (shows 22)) (flc [x0, x1, x2, x3] 4) (wordsS' L K6 j).2 wr ∧ wr.ownsRow w.heap.size 9 1 (.slice A' j cp') j (strs (wordsS' L K6 j).1)) (fun i _ => nn - (intOf i).toNat)
          case atStart => exact ⟨0, none, 0, Nat.zero_le _, rfl, M5.out, own_nil _ _ _ _⟩
          case round =>
            clear M5
            obtain ⟨j, A2, cp2, hj, rfl, hS, hO⟩ := hrel
            have MJ := Lib.hid hS
            have OJ := Lib.hid hO
            clear hS hO
            by_cases hjl : j < nn
            · have hws : Hid (wordsS' L K6 (j + 1) = ((wordsS' L K6 j).1 ++ [wordN (nxtS L (wordsS' L K6 j).2 8).1], (nxtS L (wordsS' L K6 j).2 8).2)) := Lib.hid rfl
              have hwl := wordsS'_len L K6 j
              generalize wordsS' L K6 j = wj at *
              obtain ⟨ws, Kj⟩ := wj
              dsimp only at MJ OJ hws hwl
              have HWL := Lib.hid hwl
              clear hwl
              have DM : Hid (MSt L A cp b w w1.heap.size w2.heap.size (w2.heap.size + 1) #[.int .i64 22, sv x0, sv x1, sv x2, sv x3, (.slice A2 j cp2), .int .i64 0, .int .i64 0, .string ⟨#[]⟩] (shc (shows 22)) (flc [x0, x1, x2, x3] 4) Kj wr.drew) := Lib.hid (MJ.out.below ⟨rfl, rfl, rfl, Nat.le_refl _, fun _ _ => rfl⟩ hbw)
              have DO := Lib.hid OJ.out.drew
              have e5 : wr.drew.cell? ⟨w1.heap.size, 5, none⟩ = some (.slice A2 j cp2) := cellB DM.out.l 5 rfl
              have hj100 : j ≤ 100 := by omega
              go_wp2_with fail
              refine start_ (n := 9) (S := fun w' => w'.cell? ⟨w1.heap.size, 5, none⟩ = some (.slice A2 j cp2)) (ds := [8]) #[false, false, false, false, false, false, false, false, false] (by kernel_rfl) rfl rfl e5 (fun hHeld => ?_)
              generalize wr.drew = W at DM DO e5 hHeld ⊢
              refine pure_ (i := 0) (N := some 86) (v := ?_) (a' := ?_) #[true, false, false, false, false, false, false, false, false] rfl rfl (by kernel_rfl) (fun _ _ _ h => h) (Or.inl ⟨by rfl, ?_⟩) ?_ ?_
              rotate_left
              · intro w'
                go_simp
                with_reducible rfl
              rotate_left
              · simp only [Act.put, List.setIfInBounds_toArray, List.set_cons_zero, List.set_cons_succ]
                rfl
              refine take_ (i := 1) (N := some 87) (v := ?_) (a' := ?_) #[true, true, false, false, false, false, false, false, false] rfl rfl (by kernel_rfl) (fun _ _ _ h => h) (Or.inl ⟨by rfl, ?_⟩) hHeld ?_ ?_
              rotate_left
              · rintro w' s0
                go_simp
                with_reducible rfl
              rotate_left
              · simp only [Act.put, List.setIfInBounds_toArray, List.set_cons_zero, List.set_cons_succ]
                rfl
              refine pure_ (i := 2) (N := some 88) (v := ?_) (a' := ?_) #[true, true, true, false, false, false, false, false, false] rfl rfl (by kernel_rfl) (fun _ _ _ h => h) (Or.inl ⟨by rfl, ?_⟩) ?_ ?_
              rotate_left
              · intro w'
                go_simp
                with_reducible rfl
              rotate_left
              · simp only [Act.put, List.setIfInBounds_toArray, List.set_cons_zero, List.set_cons_succ]
                rfl
              refine one_ (i := 3) (N := some 89) #[true, true, true, true, false, false, false, false, false] rfl rfl (by kernel_rfl) (by simp) (fun K hK => ?_)
              refine goes_ Tryz.func39 (by kernel_rfl) rfl #[.pointer (some ⟨b, 0, none⟩), .int .i64 8] rfl rfl rfl (by simp only [List.map_toArray, List.map_cons, List.map_nil]; rfl) ?_
              refine (next_calls L A cp b Kj 8 W DM.out.n (HA.out.below DM.out.t.u) (by omega) hL DM.out.kl).mono ?_
              rintro e W3 ⟨rfl, hN, hT⟩
              have M3 := Lib.hid (DM.out.next hbw h3 h4 (by omega) hN hT (nxt_le _ _ _ DM.out.kl))
              have O3 := Lib.hid ((TKeep.of_num DM.out.n hT).own (by simp) DO.out)
              have e53 : W3.cell? ⟨w1.heap.size, 5, none⟩ = some (.slice A2 j cp2) := cellB M3.out.l 5 rfl
              clear hN hT
              refine ⟨_, rfl, ?_⟩
              refine hK.out _ _ e53 (fun hHeld => ?_)
              refine one_ (i := 4) (N := some 90) #[true, true, true, true, true, false, false, false, false] rfl rfl (by kernel_rfl) (by simp) (fun K hK => ?_)
              refine goes_ Tryz.func40 (by kernel_rfl) rfl #[.int .i64 (nxtS L Kj 8).1] rfl rfl rfl (by simp only [List.map_toArray, List.map_cons, List.map_nil]; rfl) ?_
              refine (word_calls _ _).mono ?_
              rintro e W4 ⟨rfl, hb4⟩
              have M4 := Lib.hid (M3.out.below hb4 hbw)
              have O4 := Lib.hid ((TKeep.below (T := []) hb4).own (by simp) O3.out)
              have e54 : W4.cell? ⟨w1.heap.size, 5, none⟩ = some (.slice A2 j cp2) := cellB M4.out.l 5 rfl
              have eB := sizeB M4.out.l
              have eW := M4.out.t.u.size
              clear hb4
              refine ⟨_, rfl, ?_⟩
              refine hK.out _ _ e54 (fun hHeld => ?_)
              refine one_ (i := 5) (N := some 91) #[true, true, true, true, true, true, false, false, false] rfl rfl (by kernel_rfl) (by simp) (fun K hK => ?_)
              refine value_ (v := .slice (some ⟨W4.heap.size, 0, none⟩) 1 1) (w1 := W4.alloc (.cells #[.string ⟨(wordN (nxtS L Kj 8).1).toArray⟩] 9)) rfl rfl (by go_simp) ?_
              refine hK.out _ _ ((World.cell?_alloc_past _ _ _ eB).trans hHeld) (fun hHeld => ?_)
              refine one_ (i := 6) (N := some 92) #[true, true, true, true, true, true, true, false, false] rfl rfl (by kernel_rfl) (by simp) (fun K hK => ?_)
              refine step_append_lies (W4.alloc (.cells #[.string ⟨(wordN (nxtS L Kj 8).1).toArray⟩] 9)) (by rfl) _ _ _ (by rfl) w.heap.size 9 i0 _ 1 16 Tryz.underlying34 hi hz0 hz1 hz2 rfl (by omega) (.slice A2 j cp2) j (strs ws) (by rfl) (O4.out.alloc _) ⟨W4.heap.size, 0, none⟩ 1 1 [.string ⟨(wordN (nxtS L Kj 8).1).toArray⟩] (by rfl) (by rfl) (World.news_of_block (cs := #[.string ⟨(wordN (nxtS L Kj 8).1).toArray⟩]) (t := 9) (fr := (0, 0)) (heap_alloc_new W4 _)) (by simp [Value.oneCell']) (by omega) (by unfold maxLen; omega) (by omega) (by have := M4.out.t.u.size; have := M4.out.r; have := sizeB this; simp; omega) (W4.heap.size + 1) (by simp) ?_
              intro gg cap w5' hown3 hgrow hat hlt3
              have M6 := Lib.hid ((M4.out.below ((Below.refl _ _).alloc (Nat.le_refl _) _) hbw).grown hbw (O4.out.alloc _) hgrow)
              have O6 := Lib.hid hown3
              change K (Act.put _ (some 92) _) w5'
              have u5 : w5'.cell? ⟨w1.heap.size, 5, none⟩ = _ := cellB M6.out.l 5 rfl
              have v5 := frozenB M6.out.l 5
              clear hown3 hgrow hat
              refine hK.out _ _ u5 (fun hHeld => ?_)
              refine pure_ (i := 7) (N := some 93) (v := ?_) (a' := ?_) #[true, true, true, true, true, true, true, true, false] rfl rfl (by kernel_rfl) (fun _ _ _ h => h) (Or.inl ⟨by rfl, ?_⟩) ?_ ?_
              rotate_left
              · intro w'
                go_simp
                with_reducible rfl
              rotate_left
              · simp only [Act.put, List.setIfInBounds_toArray, List.set_cons_zero, List.set_cons_succ]
                rfl
              refine last_ (i := 8) (N := none) #[true, true, true, true, true, true, true, true, true] rfl rfl (by kernel_rfl) (by simp) (fun K hK => ?_)
              refine skip_ (w1 := w5'.setCell ⟨w1.heap.size, 5, none⟩ (.slice (some ⟨gg, 0, none⟩) (j + 1) cap)) rfl rfl (by go_simp) ?_
              refine hK.out _ _ ?_
              refine done_ (by kernel_rfl) ?_
              go_wp2_with fail
              refine ⟨⟨j + 1, some ⟨gg, 0, none⟩, cap, hjl, rfl, ?_, ?_⟩, by simp [intOf]; omega⟩
              · rw [hws.out]
                exact M6.out.setl (i := 5) hbw z1 (by omega) (by omega) _
              · rw [hws.out]
                have h := own_set' (i := 5) O6.out (own_ne O6.out M6.out.l (by decide)) (Value.slice (some ⟨gg, 0, none⟩) (j + 1) cap)
                simpa [strs, sv] using h
            · have hjn : j = nn := by omega
              subst hjn
              have hwl := wordsS'_len L K6 j
              generalize wordsS' L K6 j = wj at *
              obtain ⟨ws, Kj⟩ := wj
              dsimp only at MJ OJ HML hwl
              subst hwl
              have l0 : wr.cell? ⟨w1.heap.size, 0, none⟩ = some (.int .i64 22) := cellB MJ.out.l 0 rfl
              have l1 : wr.cell? ⟨w1.heap.size, 1, none⟩ = some (.string ⟨x0.toArray⟩) := cellB MJ.out.l 1 rfl
              have l2 : wr.cell? ⟨w1.heap.size, 2, none⟩ = some (.string ⟨x1.toArray⟩) := cellB MJ.out.l 2 rfl
              have l3 : wr.cell? ⟨w1.heap.size, 3, none⟩ = some (.string ⟨x2.toArray⟩) := cellB MJ.out.l 3 rfl
              have l4 : wr.cell? ⟨w1.heap.size, 4, none⟩ = some (.string ⟨x3.toArray⟩) := cellB MJ.out.l 4 rfl
              have l5 : wr.cell? ⟨w1.heap.size, 5, none⟩ = some (.slice A2 ws.length cp2) := cellB MJ.out.l 5 rfl
              have l6 : wr.cell? ⟨w1.heap.size, 6, none⟩ = some (.int .i64 0) := cellB MJ.out.l 6 rfl
              have l7 : wr.cell? ⟨w1.heap.size, 7, none⟩ = some (.int .i64 0) := cellB MJ.out.l 7 rfl
              have l8 : wr.cell? ⟨w1.heap.size, 8, none⟩ = some (.string ⟨#[]⟩) := cellB MJ.out.l 8 rfl
              have p0 : wr.cell? ⟨w.heap.size, 0, none⟩ = some (.int .i64 0) := cellB MJ.out.r 0 rfl
              have u0' := frozenB MJ.out.r 0
              have p1 : wr.cell? ⟨w.heap.size, 1, none⟩ = some (.string ⟨#[]⟩) := cellB MJ.out.r 1 rfl
              have u1' := frozenB MJ.out.r 1
              have p2 : wr.cell? ⟨w.heap.size, 2, none⟩ = some (.string ⟨#[]⟩) := cellB MJ.out.r 2 rfl
              have u2' := frozenB MJ.out.r 2
              have p3 : wr.cell? ⟨w.heap.size, 3, none⟩ = some (.string ⟨#[]⟩) := cellB MJ.out.r 3 rfl
              have u3' := frozenB MJ.out.r 3
              have p4 : wr.cell? ⟨w.heap.size, 4, none⟩ = some (.string ⟨#[]⟩) := cellB MJ.out.r 4 rfl
              have u4' := frozenB MJ.out.r 4
              have p5 : wr.cell? ⟨w.heap.size, 5, none⟩ = some (.slice none 0 0) := cellB MJ.out.r 5 rfl
              have u5' := frozenB MJ.out.r 5
              have p6 : wr.cell? ⟨w.heap.size, 6, none⟩ = some (.int .i64 0) := cellB MJ.out.r 6 rfl
              have u6' := frozenB MJ.out.r 6
              have p7 : wr.cell? ⟨w.heap.size, 7, none⟩ = some (.int .i64 0) := cellB MJ.out.r 7 rfl
              have u7' := frozenB MJ.out.r 7
              have p8 : wr.cell? ⟨w.heap.size, 8, none⟩ = some (.string ⟨#[]⟩) := cellB MJ.out.r 8 rfl
              have u8' := frozenB MJ.out.r 8
              have nz1 : ¬ w1.heap.size = w.heap.size := by omega
              have nz2 : ¬ w.heap.size = w1.heap.size := by omega
              go_wp2_with fail
              obtain ⟨f1, f2, f3, f4⟩ := MJ.out.put9 hbw OJ.out (v0 := .int .i64 22) (v1 := .string ⟨x0.toArray⟩) (v2 := .string ⟨x1.toArray⟩) (v3 := .string ⟨x2.toArray⟩) (v4 := .string ⟨x3.toArray⟩) (v5 := .slice A2 ws.length cp2) (v6 := .int .i64 0) (v7 := .int .i64 0) (v8 := .string ⟨#[]⟩)
              refine bodyPost_ret (v := .agg #[.int .i64 22, .string ⟨x0.toArray⟩, .string ⟨x1.toArray⟩, .string ⟨x2.toArray⟩, .string ⟨x3.toArray⟩, .slice A2 ws.length cp2, .int .i64 0, .int .i64 0, .string ⟨#[]⟩]) (results_ln rfl rfl (blk_put9 MJ.out.r) (by simp [Value.oneCell'])) rfl ?_
              unfold MLineOut
              rw [HML.out]
              exact ⟨A2, cp2, by rfl, f1, f2, f3, f4⟩
        · have l0 : X.cell? ⟨w1.heap.size, 0, none⟩ = some (.int .i64 23) := cellB MS4.out.l 0 rfl
          have q0 := frozenB MS4.out.l 0
          have hcv : lineCv L K4 23 = (Val.zero, K4) := rfl
          rw [hcv] at HML
          dsimp only at HML
          clear hcv
          go_wp2_with fail
          refine (next_calls L A cp b K4 9 _ MS4.out.n (HA.out.below MS4.out.t.u) (by omega) hL MS4.out.kl).mono ?_
          rintro e w5 ⟨rfl, hN, hT⟩
          have M5 := Lib.hid (MS4.out.next hbw h3 h4 (by omega) hN hT (nxt_le _ _ _ MS4.out.kl))
          have hr9 := nxtS_range L K4 9 (by omega)
          have hla : lineArgs L K4 23 = wordsS' L (nxtS L K4 9).2 (nxtS L K4 9).1.toNat := if_pos rfl
          rw [hla] at HML
          clear hN hT hla
          generalize (nxtS L K4 9).2 = K6 at *
          generalize (nxtS L K4 9).1 = n9 at *
          obtain ⟨nn, rfl⟩ : ∃ nn : Nat, n9 = nn := ⟨n9.toNat, by omega⟩
          rw [Int.toNat_natCast] at HML
          have hnn : nn < 9 := by omega
          clear hr9 l0 q0
          obtain ⟨i0, hi, hz0, hz1, hz2⟩ := info_parts info9s
          go_wp2_with fail
          go_loopw [8] (fun i wr => ∃ (j : Nat) (A' : Option Addr) (cp' : Nat), j ≤ nn ∧ i = .int .i64 j ∧ MSt L A cp b w w1.heap.size w2.heap.size (w2.heap.size + 1) #[.int .i64 23, sv x0, sv x1, sv x2, sv x3, (.slice A' j cp'), .int .i64 0, .int .i64 0, .string ⟨#[]⟩] (shc (shows 23)) (flc [x0, x1, x2, x3] 4) (wordsS' L K6 j).2 wr ∧ wr.ownsRow w.heap.size 9 1 (.slice A' j cp') j (strs (wordsS' L K6 j).1)) (fun i _ => nn - (intOf i).toNat)
          case atStart => exact ⟨0, none, 0, Nat.zero_le _, rfl, M5.out, own_nil _ _ _ _⟩
          case round =>
            clear M5
            obtain ⟨j, A2, cp2, hj, rfl, hS, hO⟩ := hrel
            have MJ := Lib.hid hS
            have OJ := Lib.hid hO
            clear hS hO
            by_cases hjl : j < nn
            · have hws : Hid (wordsS' L K6 (j + 1) = ((wordsS' L K6 j).1 ++ [wordN (nxtS L (wordsS' L K6 j).2 8).1], (nxtS L (wordsS' L K6 j).2 8).2)) := Lib.hid rfl
              have hwl := wordsS'_len L K6 j
              generalize wordsS' L K6 j = wj at *
              obtain ⟨ws, Kj⟩ := wj
              dsimp only at MJ OJ hws hwl
              have HWL := Lib.hid hwl
              clear hwl
              have DM : Hid (MSt L A cp b w w1.heap.size w2.heap.size (w2.heap.size + 1) #[.int .i64 23, sv x0, sv x1, sv x2, sv x3, (.slice A2 j cp2), .int .i64 0, .int .i64 0, .string ⟨#[]⟩] (shc (shows 23)) (flc [x0, x1, x2, x3] 4) Kj wr.drew) := Lib.hid (MJ.out.below ⟨rfl, rfl, rfl, Nat.le_refl _, fun _ _ => rfl⟩ hbw)
              have DO := Lib.hid OJ.out.drew
              have e5 : wr.drew.cell? ⟨w1.heap.size, 5, none⟩ = some (.slice A2 j cp2) := cellB DM.out.l 5 rfl
              have hj100 : j ≤ 100 := by omega
              go_wp2_with fail
              refine start_ (n := 9) (S := fun w' => w'.cell? ⟨w1.heap.size, 5, none⟩ = some (.slice A2 j cp2)) (ds := [8]) #[false, false, false, false, false, false, false, false, false] (by kernel_rfl) rfl rfl e5 (fun hHeld => ?_)
              generalize wr.drew = W at DM DO e5 hHeld ⊢
              refine pure_ (i := 0) (N := some 86) (v := ?_) (a' := ?_) #[true, false, false, false, false, false, false, false, false] rfl rfl (by kernel_rfl) (fun _ _ _ h => h) (Or.inl ⟨by rfl, ?_⟩) ?_ ?_
              rotate_left
              · intro w'
                go_simp
                with_reducible rfl
              rotate_left
              · simp only [Act.put, List.setIfInBounds_toArray, List.set_cons_zero, List.set_cons_succ]
                rfl
              refine take_ (i := 1) (N := some 87) (v := ?_) (a' := ?_) #[true, true, false, false, false, false, false, false, false] rfl rfl (by kernel_rfl) (fun _ _ _ h => h) (Or.inl ⟨by rfl, ?_⟩) hHeld ?_ ?_
              rotate_left
              · rintro w' s0
                go_simp
                with_reducible rfl
              rotate_left
              · simp only [Act.put, List.setIfInBounds_toArray, List.set_cons_zero, List.set_cons_succ]
                rfl
              refine pure_ (i := 2) (N := some 88) (v := ?_) (a' := ?_) #[true, true, true, false, false, false, false, false, false] rfl rfl (by kernel_rfl) (fun _ _ _ h => h) (Or.inl ⟨by rfl, ?_⟩) ?_ ?_
              rotate_left
              · intro w'
                go_simp
                with_reducible rfl
              rotate_left
              · simp only [Act.put, List.setIfInBounds_toArray, List.set_cons_zero, List.set_cons_succ]
                rfl
              refine one_ (i := 3) (N := some 89) #[true, true, true, true, false, false, false, false, false] rfl rfl (by kernel_rfl) (by simp) (fun K hK => ?_)
              refine goes_ Tryz.func39 (by kernel_rfl) rfl #[.pointer (some ⟨b, 0, none⟩), .int .i64 8] rfl rfl rfl (by simp only [List.map_toArray, List.map_cons, List.map_nil]; rfl) ?_
              refine (next_calls L A cp b Kj 8 W DM.out.n (HA.out.below DM.out.t.u) (by omega) hL DM.out.kl).mono ?_
              rintro e W3 ⟨rfl, hN, hT⟩
              have M3 := Lib.hid (DM.out.next hbw h3 h4 (by omega) hN hT (nxt_le _ _ _ DM.out.kl))
              have O3 := Lib.hid ((TKeep.of_num DM.out.n hT).own (by simp) DO.out)
              have e53 : W3.cell? ⟨w1.heap.size, 5, none⟩ = some (.slice A2 j cp2) := cellB M3.out.l 5 rfl
              clear hN hT
              refine ⟨_, rfl, ?_⟩
              refine hK.out _ _ e53 (fun hHeld => ?_)
              refine one_ (i := 4) (N := some 90) #[true, true, true, true, true, false, false, false, false] rfl rfl (by kernel_rfl) (by simp) (fun K hK => ?_)
              refine goes_ Tryz.func40 (by kernel_rfl) rfl #[.int .i64 (nxtS L Kj 8).1] rfl rfl rfl (by simp only [List.map_toArray, List.map_cons, List.map_nil]; rfl) ?_
              refine (word_calls _ _).mono ?_
              rintro e W4 ⟨rfl, hb4⟩
              have M4 := Lib.hid (M3.out.below hb4 hbw)
              have O4 := Lib.hid ((TKeep.below (T := []) hb4).own (by simp) O3.out)
              have e54 : W4.cell? ⟨w1.heap.size, 5, none⟩ = some (.slice A2 j cp2) := cellB M4.out.l 5 rfl
              have eB := sizeB M4.out.l
              have eW := M4.out.t.u.size
              clear hb4
              refine ⟨_, rfl, ?_⟩
              refine hK.out _ _ e54 (fun hHeld => ?_)
              refine one_ (i := 5) (N := some 91) #[true, true, true, true, true, true, false, false, false] rfl rfl (by kernel_rfl) (by simp) (fun K hK => ?_)
              refine value_ (v := .slice (some ⟨W4.heap.size, 0, none⟩) 1 1) (w1 := W4.alloc (.cells #[.string ⟨(wordN (nxtS L Kj 8).1).toArray⟩] 9)) rfl rfl (by go_simp) ?_
              refine hK.out _ _ ((World.cell?_alloc_past _ _ _ eB).trans hHeld) (fun hHeld => ?_)
              refine one_ (i := 6) (N := some 92) #[true, true, true, true, true, true, true, false, false] rfl rfl (by kernel_rfl) (by simp) (fun K hK => ?_)
              refine step_append_lies (W4.alloc (.cells #[.string ⟨(wordN (nxtS L Kj 8).1).toArray⟩] 9)) (by rfl) _ _ _ (by rfl) w.heap.size 9 i0 _ 1 16 Tryz.underlying34 hi hz0 hz1 hz2 rfl (by omega) (.slice A2 j cp2) j (strs ws) (by rfl) (O4.out.alloc _) ⟨W4.heap.size, 0, none⟩ 1 1 [.string ⟨(wordN (nxtS L Kj 8).1).toArray⟩] (by rfl) (by rfl) (World.news_of_block (cs := #[.string ⟨(wordN (nxtS L Kj 8).1).toArray⟩]) (t := 9) (fr := (0, 0)) (heap_alloc_new W4 _)) (by simp [Value.oneCell']) (by omega) (by unfold maxLen; omega) (by omega) (by have := M4.out.t.u.size; have := M4.out.r; have := sizeB this; simp; omega) (W4.heap.size + 1) (by simp) ?_
              intro gg cap w5' hown3 hgrow hat hlt3
              have M6 := Lib.hid ((M4.out.below ((Below.refl _ _).alloc (Nat.le_refl _) _) hbw).grown hbw (O4.out.alloc _) hgrow)
              have O6 := Lib.hid hown3
              change K (Act.put _ (some 92) _) w5'
              have u5 : w5'.cell? ⟨w1.heap.size, 5, none⟩ = _ := cellB M6.out.l 5 rfl
              have v5 := frozenB M6.out.l 5
              clear hown3 hgrow hat
              refine hK.out _ _ u5 (fun hHeld => ?_)
              refine pure_ (i := 7) (N := some 93) (v := ?_) (a' := ?_) #[true, true, true, true, true, true, true, true, false] rfl rfl (by kernel_rfl) (fun _ _ _ h => h) (Or.inl ⟨by rfl, ?_⟩) ?_ ?_
              rotate_left
              · intro w'
                go_simp
                with_reducible rfl
              rotate_left
              · simp only [Act.put, List.setIfInBounds_toArray, List.set_cons_zero, List.set_cons_succ]
                rfl
              refine last_ (i := 8) (N := none) #[true, true, true, true, true, true, true, true, true] rfl rfl (by kernel_rfl) (by simp) (fun K hK => ?_)
              refine skip_ (w1 := w5'.setCell ⟨w1.heap.size, 5, none⟩ (.slice (some ⟨gg, 0, none⟩) (j + 1) cap)) rfl rfl (by go_simp) ?_
              refine hK.out _ _ ?_
              refine done_ (by kernel_rfl) ?_
              go_wp2_with fail
              refine ⟨⟨j + 1, some ⟨gg, 0, none⟩, cap, hjl, rfl, ?_, ?_⟩, by simp [intOf]; omega⟩
              · rw [hws.out]
                exact M6.out.setl (i := 5) hbw z1 (by omega) (by omega) _
              · rw [hws.out]
                have h := own_set' (i := 5) O6.out (own_ne O6.out M6.out.l (by decide)) (Value.slice (some ⟨gg, 0, none⟩) (j + 1) cap)
                simpa [strs, sv] using h
            · have hjn : j = nn := by omega
              subst hjn
              have hwl := wordsS'_len L K6 j
              generalize wordsS' L K6 j = wj at *
              obtain ⟨ws, Kj⟩ := wj
              dsimp only at MJ OJ HML hwl
              subst hwl
              have l0 : wr.cell? ⟨w1.heap.size, 0, none⟩ = some (.int .i64 23) := cellB MJ.out.l 0 rfl
              have l1 : wr.cell? ⟨w1.heap.size, 1, none⟩ = some (.string ⟨x0.toArray⟩) := cellB MJ.out.l 1 rfl
              have l2 : wr.cell? ⟨w1.heap.size, 2, none⟩ = some (.string ⟨x1.toArray⟩) := cellB MJ.out.l 2 rfl
              have l3 : wr.cell? ⟨w1.heap.size, 3, none⟩ = some (.string ⟨x2.toArray⟩) := cellB MJ.out.l 3 rfl
              have l4 : wr.cell? ⟨w1.heap.size, 4, none⟩ = some (.string ⟨x3.toArray⟩) := cellB MJ.out.l 4 rfl
              have l5 : wr.cell? ⟨w1.heap.size, 5, none⟩ = some (.slice A2 ws.length cp2) := cellB MJ.out.l 5 rfl
              have l6 : wr.cell? ⟨w1.heap.size, 6, none⟩ = some (.int .i64 0) := cellB MJ.out.l 6 rfl
              have l7 : wr.cell? ⟨w1.heap.size, 7, none⟩ = some (.int .i64 0) := cellB MJ.out.l 7 rfl
              have l8 : wr.cell? ⟨w1.heap.size, 8, none⟩ = some (.string ⟨#[]⟩) := cellB MJ.out.l 8 rfl
              have p0 : wr.cell? ⟨w.heap.size, 0, none⟩ = some (.int .i64 0) := cellB MJ.out.r 0 rfl
              have u0' := frozenB MJ.out.r 0
              have p1 : wr.cell? ⟨w.heap.size, 1, none⟩ = some (.string ⟨#[]⟩) := cellB MJ.out.r 1 rfl
              have u1' := frozenB MJ.out.r 1
              have p2 : wr.cell? ⟨w.heap.size, 2, none⟩ = some (.string ⟨#[]⟩) := cellB MJ.out.r 2 rfl
              have u2' := frozenB MJ.out.r 2
              have p3 : wr.cell? ⟨w.heap.size, 3, none⟩ = some (.string ⟨#[]⟩) := cellB MJ.out.r 3 rfl
              have u3' := frozenB MJ.out.r 3
              have p4 : wr.cell? ⟨w.heap.size, 4, none⟩ = some (.string ⟨#[]⟩) := cellB MJ.out.r 4 rfl
              have u4' := frozenB MJ.out.r 4
              have p5 : wr.cell? ⟨w.heap.size, 5, none⟩ = some (.slice none 0 0) := cellB MJ.out.r 5 rfl
              have u5' := frozenB MJ.out.r 5
              have p6 : wr.cell? ⟨w.heap.size, 6, none⟩ = some (.int .i64 0) := cellB MJ.out.r 6 rfl
              have u6' := frozenB MJ.out.r 6
              have p7 : wr.cell? ⟨w.heap.size, 7, none⟩ = some (.int .i64 0) := cellB MJ.out.r 7 rfl
              have u7' := frozenB MJ.out.r 7
              have p8 : wr.cell? ⟨w.heap.size, 8, none⟩ = some (.string ⟨#[]⟩) := cellB MJ.out.r 8 rfl
              have u8' := frozenB MJ.out.r 8
              have nz1 : ¬ w1.heap.size = w.heap.size := by omega
              have nz2 : ¬ w.heap.size = w1.heap.size := by omega
              go_wp2_with fail
              obtain ⟨f1, f2, f3, f4⟩ := MJ.out.put9 hbw OJ.out (v0 := .int .i64 23) (v1 := .string ⟨x0.toArray⟩) (v2 := .string ⟨x1.toArray⟩) (v3 := .string ⟨x2.toArray⟩) (v4 := .string ⟨x3.toArray⟩) (v5 := .slice A2 ws.length cp2) (v6 := .int .i64 0) (v7 := .int .i64 0) (v8 := .string ⟨#[]⟩)
              refine bodyPost_ret (v := .agg #[.int .i64 23, .string ⟨x0.toArray⟩, .string ⟨x1.toArray⟩, .string ⟨x2.toArray⟩, .string ⟨x3.toArray⟩, .slice A2 ws.length cp2, .int .i64 0, .int .i64 0, .string ⟨#[]⟩]) (results_ln rfl rfl (blk_put9 MJ.out.r) (by simp [Value.oneCell'])) rfl ?_
              unfold MLineOut
              rw [HML.out]
              exact ⟨A2, cp2, by rfl, f1, f2, f3, f4⟩
        · have l0 : X.cell? ⟨w1.heap.size, 0, none⟩ = some (.int .i64 24) := cellB MS4.out.l 0 rfl
          have q0 := frozenB MS4.out.l 0
          have hcv : lineCv L K4 24 = (Val.zero, K4) := rfl
          rw [hcv] at HML
          dsimp only at HML
          clear hcv
          go_wp2_with fail
          refine (next_calls L A cp b K4 9 _ MS4.out.n (HA.out.below MS4.out.t.u) (by omega) hL MS4.out.kl).mono ?_
          rintro e w5 ⟨rfl, hN, hT⟩
          have M5 := Lib.hid (MS4.out.next hbw h3 h4 (by omega) hN hT (nxt_le _ _ _ MS4.out.kl))
          have hr9 := nxtS_range L K4 9 (by omega)
          have hla : lineArgs L K4 24 = wordsS' L (nxtS L K4 9).2 (nxtS L K4 9).1.toNat := if_pos rfl
          rw [hla] at HML
          clear hN hT hla
          generalize (nxtS L K4 9).2 = K6 at *
          generalize (nxtS L K4 9).1 = n9 at *
          obtain ⟨nn, rfl⟩ : ∃ nn : Nat, n9 = nn := ⟨n9.toNat, by omega⟩
          rw [Int.toNat_natCast] at HML
          have hnn : nn < 9 := by omega
          clear hr9 l0 q0
          obtain ⟨i0, hi, hz0, hz1, hz2⟩ := info_parts info9s
          go_wp2_with fail
          go_loopw [8] (fun i wr => ∃ (j : Nat) (A' : Option Addr) (cp' : Nat), j ≤ nn ∧ i = .int .i64 j ∧ MSt L A cp b w w1.heap.size w2.heap.size (w2.heap.size + 1) #[.int .i64 24, sv x0, sv x1, sv x2, sv x3, (.slice A' j cp'), .int .i64 0, .int .i64 0, .string ⟨#[]⟩] (shc (shows 24)) (flc [x0, x1, x2, x3] 4) (wordsS' L K6 j).2 wr ∧ wr.ownsRow w.heap.size 9 1 (.slice A' j cp') j (strs (wordsS' L K6 j).1)) (fun i _ => nn - (intOf i).toNat)
          case atStart => exact ⟨0, none, 0, Nat.zero_le _, rfl, M5.out, own_nil _ _ _ _⟩
          case round =>
            clear M5
            obtain ⟨j, A2, cp2, hj, rfl, hS, hO⟩ := hrel
            have MJ := Lib.hid hS
            have OJ := Lib.hid hO
            clear hS hO
            by_cases hjl : j < nn
            · have hws : Hid (wordsS' L K6 (j + 1) = ((wordsS' L K6 j).1 ++ [wordN (nxtS L (wordsS' L K6 j).2 8).1], (nxtS L (wordsS' L K6 j).2 8).2)) := Lib.hid rfl
              have hwl := wordsS'_len L K6 j
              generalize wordsS' L K6 j = wj at *
              obtain ⟨ws, Kj⟩ := wj
              dsimp only at MJ OJ hws hwl
              have HWL := Lib.hid hwl
              clear hwl
              have DM : Hid (MSt L A cp b w w1.heap.size w2.heap.size (w2.heap.size + 1) #[.int .i64 24, sv x0, sv x1, sv x2, sv x3, (.slice A2 j cp2), .int .i64 0, .int .i64 0, .string ⟨#[]⟩] (shc (shows 24)) (flc [x0, x1, x2, x3] 4) Kj wr.drew) := Lib.hid (MJ.out.below ⟨rfl, rfl, rfl, Nat.le_refl _, fun _ _ => rfl⟩ hbw)
              have DO := Lib.hid OJ.out.drew
              have e5 : wr.drew.cell? ⟨w1.heap.size, 5, none⟩ = some (.slice A2 j cp2) := cellB DM.out.l 5 rfl
              have hj100 : j ≤ 100 := by omega
              go_wp2_with fail
              refine start_ (n := 9) (S := fun w' => w'.cell? ⟨w1.heap.size, 5, none⟩ = some (.slice A2 j cp2)) (ds := [8]) #[false, false, false, false, false, false, false, false, false] (by kernel_rfl) rfl rfl e5 (fun hHeld => ?_)
              generalize wr.drew = W at DM DO e5 hHeld ⊢
              refine pure_ (i := 0) (N := some 86) (v := ?_) (a' := ?_) #[true, false, false, false, false, false, false, false, false] rfl rfl (by kernel_rfl) (fun _ _ _ h => h) (Or.inl ⟨by rfl, ?_⟩) ?_ ?_
              rotate_left
              · intro w'
                go_simp
                with_reducible rfl
              rotate_left
              · simp only [Act.put, List.setIfInBounds_toArray, List.set_cons_zero, List.set_cons_succ]
                rfl
              refine take_ (i := 1) (N := some 87) (v := ?_) (a' := ?_) #[true, true, false, false, false, false, false, false, false] rfl rfl (by kernel_rfl) (fun _ _ _ h => h) (Or.inl ⟨by rfl, ?_⟩) hHeld ?_ ?_
              rotate_left
              · rintro w' s0
                go_simp
                with_reducible rfl
              rotate_left
              · simp only [Act.put, List.setIfInBounds_toArray, List.set_cons_zero, List.set_cons_succ]
                rfl
              refine pure_ (i := 2) (N := some 88) (v := ?_) (a' := ?_) #[true, true, true, false, false, false, false, false, false] rfl rfl (by kernel_rfl) (fun _ _ _ h => h) (Or.inl ⟨by rfl, ?_⟩) ?_ ?_
              rotate_left
              · intro w'
                go_simp
                with_reducible rfl
              rotate_left
              · simp only [Act.put, List.setIfInBounds_toArray, List.set_cons_zero, List.set_cons_succ]
                rfl
              refine one_ (i := 3) (N := some 89) #[true, true, true, true, false, false, false, false, false] rfl rfl (by kernel_rfl) (by simp) (fun K hK => ?_)
              refine goes_ Tryz.func39 (by kernel_rfl) rfl #[.pointer (some ⟨b, 0, none⟩), .int .i64 8] rfl rfl rfl (by simp only [List.map_toArray, List.map_cons, List.map_nil]; rfl) ?_
              refine (next_calls L A cp b Kj 8 W DM.out.n (HA.out.below DM.out.t.u) (by omega) hL DM.out.kl).mono ?_
              rintro e W3 ⟨rfl, hN, hT⟩
              have M3 := Lib.hid (DM.out.next hbw h3 h4 (by omega) hN hT (nxt_le _ _ _ DM.out.kl))
              have O3 := Lib.hid ((TKeep.of_num DM.out.n hT).own (by simp) DO.out)
              have e53 : W3.cell? ⟨w1.heap.size, 5, none⟩ = some (.slice A2 j cp2) := cellB M3.out.l 5 rfl
              clear hN hT
              refine ⟨_, rfl, ?_⟩
              refine hK.out _ _ e53 (fun hHeld => ?_)
              refine one_ (i := 4) (N := some 90) #[true, true, true, true, true, false, false, false, false] rfl rfl (by kernel_rfl) (by simp) (fun K hK => ?_)
              refine goes_ Tryz.func40 (by kernel_rfl) rfl #[.int .i64 (nxtS L Kj 8).1] rfl rfl rfl (by simp only [List.map_toArray, List.map_cons, List.map_nil]; rfl) ?_
              refine (word_calls _ _).mono ?_
              rintro e W4 ⟨rfl, hb4⟩
              have M4 := Lib.hid (M3.out.below hb4 hbw)
              have O4 := Lib.hid ((TKeep.below (T := []) hb4).own (by simp) O3.out)
              have e54 : W4.cell? ⟨w1.heap.size, 5, none⟩ = some (.slice A2 j cp2) := cellB M4.out.l 5 rfl
              have eB := sizeB M4.out.l
              have eW := M4.out.t.u.size
              clear hb4
              refine ⟨_, rfl, ?_⟩
              refine hK.out _ _ e54 (fun hHeld => ?_)
              refine one_ (i := 5) (N := some 91) #[true, true, true, true, true, true, false, false, false] rfl rfl (by kernel_rfl) (by simp) (fun K hK => ?_)
              refine value_ (v := .slice (some ⟨W4.heap.size, 0, none⟩) 1 1) (w1 := W4.alloc (.cells #[.string ⟨(wordN (nxtS L Kj 8).1).toArray⟩] 9)) rfl rfl (by go_simp) ?_
              refine hK.out _ _ ((World.cell?_alloc_past _ _ _ eB).trans hHeld) (fun hHeld => ?_)
              refine one_ (i := 6) (N := some 92) #[true, true, true, true, true, true, true, false, false] rfl rfl (by kernel_rfl) (by simp) (fun K hK => ?_)
              refine step_append_lies (W4.alloc (.cells #[.string ⟨(wordN (nxtS L Kj 8).1).toArray⟩] 9)) (by rfl) _ _ _ (by rfl) w.heap.size 9 i0 _ 1 16 Tryz.underlying34 hi hz0 hz1 hz2 rfl (by omega) (.slice A2 j cp2) j (strs ws) (by rfl) (O4.out.alloc _) ⟨W4.heap.size, 0, none⟩ 1 1 [.string ⟨(wordN (nxtS L Kj 8).1).toArray⟩] (by rfl) (by rfl) (World.news_of_block (cs := #[.string ⟨(wordN (nxtS L Kj 8).1).toArray⟩]) (t := 9) (fr := (0, 0)) (heap_alloc_new W4 _)) (by simp [Value.oneCell']) (by omega) (by unfold maxLen; omega) (by omega) (by have := M4.out.t.u.size; have := M4.out.r; have := sizeB this; simp; omega) (W4.heap.size + 1) (by simp) ?_
              intro gg cap w5' hown3 hgrow hat hlt3
              have M6 := Lib.hid ((M4.out.below ((Below.refl _ _).alloc (Nat.le_refl _) _) hbw).grown hbw (O4.out.alloc _) hgrow)
              have O6 := Lib.hid hown3
              change K (Act.put _ (some 92) _) w5'
              have u5 : w5'.cell? ⟨w1.heap.size, 5, none⟩ = _ := cellB M6.out.l 5 rfl
              have v5 := frozenB M6.out.l 5
              clear hown3 hgrow hat
              refine hK.out _ _ u5 (fun hHeld => ?_)
              refine pure_ (i := 7) (N := some 93) (v := ?_) (a' := ?_) #[true, true, true, true, true, true, true, true, false] rfl rfl (by kernel_rfl) (fun _ _ _ h => h) (Or.inl ⟨by rfl, ?_⟩) ?_ ?_
              rotate_left
              · intro w'
                go_simp
                with_reducible rfl
              rotate_left
              · simp only [Act.put, List.setIfInBounds_toArray, List.set_cons_zero, List.set_cons_succ]
                rfl
              refine last_ (i := 8) (N := none) #[true, true, true, true, true, true, true, true, true] rfl rfl (by kernel_rfl) (by simp) (fun K hK => ?_)
              refine skip_ (w1 := w5'.setCell ⟨w1.heap.size, 5, none⟩ (.slice (some ⟨gg, 0, none⟩) (j + 1) cap)) rfl rfl (by go_simp) ?_
              refine hK.out _ _ ?_
              refine done_ (by kernel_rfl) ?_
              go_wp2_with fail
              refine ⟨⟨j + 1, some ⟨gg, 0, none⟩, cap, hjl, rfl, ?_, ?_⟩, by simp [intOf]; omega⟩
              · rw [hws.out]
                exact M6.out.setl (i := 5) hbw z1 (by omega) (by omega) _
              · rw [hws.out]
                have h := own_set' (i := 5) O6.out (own_ne O6.out M6.out.l (by decide)) (Value.slice (some ⟨gg, 0, none⟩) (j + 1) cap)
                simpa [strs, sv] using h
            · have hjn : j = nn := by omega
              subst hjn
              have hwl := wordsS'_len L K6 j
              generalize wordsS' L K6 j = wj at *
              obtain ⟨ws, Kj⟩ := wj
              dsimp only at MJ OJ HML hwl
              subst hwl
              have l0 : wr.cell? ⟨w1.heap.size, 0, none⟩ = some (.int .i64 24) := cellB MJ.out.l 0 rfl
              have l1 : wr.cell? ⟨w1.heap.size, 1, none⟩ = some (.string ⟨x0.toArray⟩) := cellB MJ.out.l 1 rfl
              have l2 : wr.cell? ⟨w1.heap.size, 2, none⟩ = some (.string ⟨x1.toArray⟩) := cellB MJ.out.l 2 rfl
              have l3 : wr.cell? ⟨w1.heap.size, 3, none⟩ = some (.string ⟨x2.toArray⟩) := cellB MJ.out.l 3 rfl
              have l4 : wr.cell? ⟨w1.heap.size, 4, none⟩ = some (.string ⟨x3.toArray⟩) := cellB MJ.out.l 4 rfl
              have l5 : wr.cell? ⟨w1.heap.size, 5, none⟩ = some (.slice A2 ws.length cp2) := cellB MJ.out.l 5 rfl
              have l6 : wr.cell? ⟨w1.heap.size, 6, none⟩ = some (.int .i64 0) := cellB MJ.out.l 6 rfl
              have l7 : wr.cell? ⟨w1.heap.size, 7, none⟩ = some (.int .i64 0) := cellB MJ.out.l 7 rfl
              have l8 : wr.cell? ⟨w1.heap.size, 8, none⟩ = some (.string ⟨#[]⟩) := cellB MJ.out.l 8 rfl
              have p0 : wr.cell? ⟨w.heap.size, 0, none⟩ = some (.int .i64 0) := cellB MJ.out.r 0 rfl
              have u0' := frozenB MJ.out.r 0
              have p1 : wr.cell? ⟨w.heap.size, 1, none⟩ = some (.string ⟨#[]⟩) := cellB MJ.out.r 1 rfl
              have u1' := frozenB MJ.out.r 1
              have p2 : wr.cell? ⟨w.heap.size, 2, none⟩ = some (.string ⟨#[]⟩) := cellB MJ.out.r 2 rfl
              have u2' := frozenB MJ.out.r 2
              have p3 : wr.cell? ⟨w.heap.size, 3, none⟩ = some (.string ⟨#[]⟩) := cellB MJ.out.r 3 rfl
              have u3' := frozenB MJ.out.r 3
              have p4 : wr.cell? ⟨w.heap.size, 4, none⟩ = some (.string ⟨#[]⟩) := cellB MJ.out.r 4 rfl
              have u4' := frozenB MJ.out.r 4
              have p5 : wr.cell? ⟨w.heap.size, 5, none⟩ = some (.slice none 0 0) := cellB MJ.out.r 5 rfl
              have u5' := frozenB MJ.out.r 5
              have p6 : wr.cell? ⟨w.heap.size, 6, none⟩ = some (.int .i64 0) := cellB MJ.out.r 6 rfl
              have u6' := frozenB MJ.out.r 6
              have p7 : wr.cell? ⟨w.heap.size, 7, none⟩ = some (.int .i64 0) := cellB MJ.out.r 7 rfl
              have u7' := frozenB MJ.out.r 7
              have p8 : wr.cell? ⟨w.heap.size, 8, none⟩ = some (.string ⟨#[]⟩) := cellB MJ.out.r 8 rfl
              have u8' := frozenB MJ.out.r 8
              have nz1 : ¬ w1.heap.size = w.heap.size := by omega
              have nz2 : ¬ w.heap.size = w1.heap.size := by omega
              go_wp2_with fail
              obtain ⟨f1, f2, f3, f4⟩ := MJ.out.put9 hbw OJ.out (v0 := .int .i64 24) (v1 := .string ⟨x0.toArray⟩) (v2 := .string ⟨x1.toArray⟩) (v3 := .string ⟨x2.toArray⟩) (v4 := .string ⟨x3.toArray⟩) (v5 := .slice A2 ws.length cp2) (v6 := .int .i64 0) (v7 := .int .i64 0) (v8 := .string ⟨#[]⟩)
              refine bodyPost_ret (v := .agg #[.int .i64 24, .string ⟨x0.toArray⟩, .string ⟨x1.toArray⟩, .string ⟨x2.toArray⟩, .string ⟨x3.toArray⟩, .slice A2 ws.length cp2, .int .i64 0, .int .i64 0, .string ⟨#[]⟩]) (results_ln rfl rfl (blk_put9 MJ.out.r) (by simp [Value.oneCell'])) rfl ?_
              unfold MLineOut
              rw [HML.out]
              exact ⟨A2, cp2, by rfl, f1, f2, f3, f4⟩
        · have l0 : X.cell? ⟨w1.heap.size, 0, none⟩ = some (.int .i64 25) := cellB MS4.out.l 0 rfl
          have q0 := frozenB MS4.out.l 0
          have hcv : lineCv L K4 25 = (Val.zero, K4) := rfl
          rw [hcv] at HML
          dsimp only at HML
          clear hcv
          go_wp2_with fail
          refine (next_calls L A cp b K4 9 _ MS4.out.n (HA.out.below MS4.out.t.u) (by omega) hL MS4.out.kl).mono ?_
          rintro e w5 ⟨rfl, hN, hT⟩
          have M5 := Lib.hid (MS4.out.next hbw h3 h4 (by omega) hN hT (nxt_le _ _ _ MS4.out.kl))
          have hr9 := nxtS_range L K4 9 (by omega)
          have hla : lineArgs L K4 25 = wordsS' L (nxtS L K4 9).2 (nxtS L K4 9).1.toNat := if_pos rfl
          rw [hla] at HML
          clear hN hT hla
          generalize (nxtS L K4 9).2 = K6 at *
          generalize (nxtS L K4 9).1 = n9 at *
          obtain ⟨nn, rfl⟩ : ∃ nn : Nat, n9 = nn := ⟨n9.toNat, by omega⟩
          rw [Int.toNat_natCast] at HML
          have hnn : nn < 9 := by omega
          clear hr9 l0 q0
          obtain ⟨i0, hi, hz0, hz1, hz2⟩ := info_parts info9s
          go_wp2_with fail
          go_loopw [8] (fun i wr => ∃ (j : Nat) (A' : Option Addr) (cp' : Nat), j ≤ nn ∧ i = .int .i64 j ∧ MSt L A cp b w w1.heap.size w2.heap.size (w2.heap.size + 1) #[.int .i64 25, sv x0, sv x1, sv x2, sv x3, (.slice A' j cp'), .int .i64 0, .int .i64 0, .string ⟨#[]⟩] (shc (shows 25)) (flc [x0, x1, x2, x3] 4) (wordsS' L K6 j).2 wr ∧ wr.ownsRow w.heap.size 9 1 (.slice A' j cp') j (strs (wordsS' L K6 j).1)) (fun i _ => nn - (intOf i).toNat)
          case atStart => exact ⟨0, none, 0, Nat.zero_le _, rfl, M5.out, own_nil _ _ _ _⟩
          case round =>
            clear M5
            obtain ⟨j, A2, cp2, hj, rfl, hS, hO⟩ := hrel
            have MJ := Lib.hid hS
            have OJ := Lib.hid hO
            clear hS hO
            by_cases hjl : j < nn
            · have hws : Hid (wordsS' L K6 (j + 1) = ((wordsS' L K6 j).1 ++ [wordN (nxtS L (wordsS' L K6 j).2 8).1], (nxtS L (wordsS' L K6 j).2 8).2)) := Lib.hid rfl
              have hwl := wordsS'_len L K6 j
              generalize wordsS' L K6 j = wj at *
              obtain ⟨ws, Kj⟩ := wj
              dsimp only at MJ OJ hws hwl
              have HWL := Lib.hid hwl
              clear hwl
              have DM : Hid (MSt L A cp b w w1.heap.size w2.heap.size (w2.heap.size + 1) #[.int .i64 25, sv x0, sv x1, sv x2, sv x3, (.slice A2 j cp2), .int .i64 0, .int .i64 0, .string ⟨#[]⟩] (shc (shows 25)) (flc [x0, x1, x2, x3] 4) Kj wr.drew) := Lib.hid (MJ.out.below ⟨rfl, rfl, rfl, Nat.le_refl _, fun _ _ => rfl⟩ hbw)
              have DO := Lib.hid OJ.out.drew
              have e5 : wr.drew.cell? ⟨w1.heap.size, 5, none⟩ = some (.slice A2 j cp2) := cellB DM.out.l 5 rfl
              have hj100 : j ≤ 100 := by omega
              go_wp2_with fail
              refine start_ (n := 9) (S := fun w' => w'.cell? ⟨w1.heap.size, 5, none⟩ = some (.slice A2 j cp2)) (ds := [8]) #[false, false, false, false, false, false, false, false, false] (by kernel_rfl) rfl rfl e5 (fun hHeld => ?_)
              generalize wr.drew = W at DM DO e5 hHeld ⊢
              refine pure_ (i := 0) (N := some 86) (v := ?_) (a' := ?_) #[true, false, false, false, false, false, false, false, false] rfl rfl (by kernel_rfl) (fun _ _ _ h => h) (Or.inl ⟨by rfl, ?_⟩) ?_ ?_
              rotate_left
              · intro w'
                go_simp
                with_reducible rfl
              rotate_left
              · simp only [Act.put, List.setIfInBounds_toArray, List.set_cons_zero, List.set_cons_succ]
                rfl
              refine take_ (i := 1) (N := some 87) (v := ?_) (a' := ?_) #[true, true, false, false, false, false, false, false, false] rfl rfl (by kernel_rfl) (fun _ _ _ h => h) (Or.inl ⟨by rfl, ?_⟩) hHeld ?_ ?_
              rotate_left
              · rintro w' s0
                go_simp
                with_reducible rfl
              rotate_left
              · simp only [Act.put, List.setIfInBounds_toArray, List.set_cons_zero, List.set_cons_succ]
                rfl
              refine pure_ (i := 2) (N := some 88) (v := ?_) (a' := ?_) #[true, true, true, false, false, false, false, false, false] rfl rfl (by kernel_rfl) (fun _ _ _ h => h) (Or.inl ⟨by rfl, ?_⟩) ?_ ?_
              rotate_left
              · intro w'
                go_simp
                with_reducible rfl
              rotate_left
              · simp only [Act.put, List.setIfInBounds_toArray, List.set_cons_zero, List.set_cons_succ]
                rfl
              refine one_ (i := 3) (N := some 89) #[true, true, true, true, false, false, false, false, false] rfl rfl (by kernel_rfl) (by simp) (fun K hK => ?_)
              refine goes_ Tryz.func39 (by kernel_rfl) rfl #[.pointer (some ⟨b, 0, none⟩), .int .i64 8] rfl rfl rfl (by simp only [List.map_toArray, List.map_cons, List.map_nil]; rfl) ?_
              refine (next_calls L A cp b Kj 8 W DM.out.n (HA.out.below DM.out.t.u) (by omega) hL DM.out.kl).mono ?_
              rintro e W3 ⟨rfl, hN, hT⟩
              have M3 := Lib.hid (DM.out.next hbw h3 h4 (by omega) hN hT (nxt_le _ _ _ DM.out.kl))
              have O3 := Lib.hid ((TKeep.of_num DM.out.n hT).own (by simp) DO.out)
              have e53 : W3.cell? ⟨w1.heap.size, 5, none⟩ = some (.slice A2 j cp2) := cellB M3.out.l 5 rfl
              clear hN hT
              refine ⟨_, rfl, ?_⟩
              refine hK.out _ _ e53 (fun hHeld => ?_)
              refine one_ (i := 4) (N := some 90) #[true, true, true, true, true, false, false, false, false] rfl rfl (by kernel_rfl) (by simp) (fun K hK => ?_)
              refine goes_ Tryz.func40 (by kernel_rfl) rfl #[.int .i64 (nxtS L Kj 8).1] rfl rfl rfl (by simp only [List.map_toArray, List.map_cons, List.map_nil]; rfl) ?_
              refine (word_calls _ _).mono ?_
              rintro e W4 ⟨rfl, hb4⟩
              have M4 := Lib.hid (M3.out.below hb4 hbw)
              have O4 := Lib.hid ((TKeep.below (T := []) hb4).own (by simp) O3.out)
              have e54 : W4.cell? ⟨w1.heap.size, 5, none⟩ = some (.slice A2 j cp2) := cellB M4.out.l 5 rfl
              have eB := sizeB M4.out.l
              have eW := M4.out.t.u.size
              clear hb4
              refine ⟨_, rfl, ?_⟩
              refine hK.out _ _ e54 (fun hHeld => ?_)
              refine one_ (i := 5) (N := some 91) #[true, true, true, true, true, true, false, false, false] rfl rfl (by kernel_rfl) (by simp) (fun K hK => ?_)
              refine value_ (v := .slice (some ⟨W4.heap.size, 0, none⟩) 1 1) (w1 := W4.alloc (.cells #[.string ⟨(wordN (nxtS L Kj 8).1).toArray⟩] 9)) rfl rfl (by go_simp) ?_
              refine hK.out _ _ ((World.cell?_alloc_past _ _ _ eB).trans hHeld) (fun hHeld => ?_)
              refine one_ (i := 6) (N := some 92) #[true, true, true, true, true, true, true, false, false] rfl rfl (by kernel_rfl) (by simp) (fun K hK => ?_)
              refine step_append_lies (W4.alloc (.cells #[.string ⟨(wordN (nxtS L Kj 8).1).toArray⟩] 9)) (by rfl) _ _ _ (by rfl) w.heap.size 9 i0 _ 1 16 Tryz.underlying34 hi hz0 hz1 hz2 rfl (by omega) (.slice A2 j cp2) j (strs ws) (by rfl) (O4.out.alloc _) ⟨W4.heap.size, 0, none⟩ 1 1 [.string ⟨(wordN (nxtS L Kj 8).1).toArray⟩] (by rfl) (by rfl) (World.news_of_block (cs := #[.string ⟨(wordN (nxtS L Kj 8).1).toArray⟩]) (t := 9) (fr := (0, 0)) (heap_alloc_new W4 _)) (by simp [Value.oneCell']) (by omega) (by unfold maxLen; omega) (by omega) (by have := M4.out.t.u.size; have := M4.out.r; have := sizeB this; simp; omega) (W4.heap.size + 1) (by simp) ?_
              intro gg cap w5' hown3 hgrow hat hlt3
              have M6 := Lib.hid ((M4.out.below ((Below.refl _ _).alloc (Nat.le_refl _) _) hbw).grown hbw (O4.out.alloc _) hgrow)
              have O6 := Lib.hid hown3
              change K (Act.put _ (some 92) _) w5'
              have u5 : w5'.cell? ⟨w1.heap.size, 5, none⟩ = _ := cellB M6.out.l 5 rfl
              have v5 := frozenB M6.out.l 5
              clear hown3 hgrow hat
              refine hK.out _ _ u5 (fun hHeld => ?_)
              refine pure_ (i := 7) (N := some 93) (v := ?_) (a' := ?_) #[true, true, true, true, true, true, true, true, false] rfl rfl (by kernel_rfl) (fun _ _ _ h => h) (Or.inl ⟨by rfl, ?_⟩) ?_ ?_
              rotate_left
              · intro w'
                go_simp
                with_reducible rfl
              rotate_left
              · simp only [Act.put, List.setIfInBounds_toArray, List.set_cons_zero, List.set_cons_succ]
                rfl
              refine last_ (i := 8) (N := none) #[true, true, true, true, true, true, true, true, true] rfl rfl (by kernel_rfl) (by simp) (fun K hK => ?_)
              refine skip_ (w1 := w5'.setCell ⟨w1.heap.size, 5, none⟩ (.slice (some ⟨gg, 0, none⟩) (j + 1) cap)) rfl rfl (by go_simp) ?_
              refine hK.out _ _ ?_
              refine done_ (by kernel_rfl) ?_
              go_wp2_with fail
              refine ⟨⟨j + 1, some ⟨gg, 0, none⟩, cap, hjl, rfl, ?_, ?_⟩, by simp [intOf]; omega⟩
              · rw [hws.out]
                exact M6.out.setl (i := 5) hbw z1 (by omega) (by omega) _
              · rw [hws.out]
                have h := own_set' (i := 5) O6.out (own_ne O6.out M6.out.l (by decide)) (Value.slice (some ⟨gg, 0, none⟩) (j + 1) cap)
                simpa [strs, sv] using h
            · have hjn : j = nn := by omega
              subst hjn
              have hwl := wordsS'_len L K6 j
              generalize wordsS' L K6 j = wj at *
              obtain ⟨ws, Kj⟩ := wj
              dsimp only at MJ OJ HML hwl
              subst hwl
              have l0 : wr.cell? ⟨w1.heap.size, 0, none⟩ = some (.int .i64 25) := cellB MJ.out.l 0 rfl
              have l1 : wr.cell? ⟨w1.heap.size, 1, none⟩ = some (.string ⟨x0.toArray⟩) := cellB MJ.out.l 1 rfl
              have l2 : wr.cell? ⟨w1.heap.size, 2, none⟩ = some (.string ⟨x1.toArray⟩) := cellB MJ.out.l 2 rfl
              have l3 : wr.cell? ⟨w1.heap.size, 3, none⟩ = some (.string ⟨x2.toArray⟩) := cellB MJ.out.l 3 rfl
              have l4 : wr.cell? ⟨w1.heap.size, 4, none⟩ = some (.string ⟨x3.toArray⟩) := cellB MJ.out.l 4 rfl
              have l5 : wr.cell? ⟨w1.heap.size, 5, none⟩ = some (.slice A2 ws.length cp2) := cellB MJ.out.l 5 rfl
              have l6 : wr.cell? ⟨w1.heap.size, 6, none⟩ = some (.int .i64 0) := cellB MJ.out.l 6 rfl
              have l7 : wr.cell? ⟨w1.heap.size, 7, none⟩ = some (.int .i64 0) := cellB MJ.out.l 7 rfl
              have l8 : wr.cell? ⟨w1.heap.size, 8, none⟩ = some (.string ⟨#[]⟩) := cellB MJ.out.l 8 rfl
              have p0 : wr.cell? ⟨w.heap.size, 0, none⟩ = some (.int .i64 0) := cellB MJ.out.r 0 rfl
              have u0' := frozenB MJ.out.r 0
              have p1 : wr.cell? ⟨w.heap.size, 1, none⟩ = some (.string ⟨#[]⟩) := cellB MJ.out.r 1 rfl
              have u1' := frozenB MJ.out.r 1
              have p2 : wr.cell? ⟨w.heap.size, 2, none⟩ = some (.string ⟨#[]⟩) := cellB MJ.out.r 2 rfl
              have u2' := frozenB MJ.out.r 2
              have p3 : wr.cell? ⟨w.heap.size, 3, none⟩ = some (.string ⟨#[]⟩) := cellB MJ.out.r 3 rfl
              have u3' := frozenB MJ.out.r 3
              have p4 : wr.cell? ⟨w.heap.size, 4, none⟩ = some (.string ⟨#[]⟩) := cellB MJ.out.r 4 rfl
              have u4' := frozenB MJ.out.r 4
              have p5 : wr.cell? ⟨w.heap.size, 5, none⟩ = some (.slice none 0 0) := cellB MJ.out.r 5 rfl
              have u5' := frozenB MJ.out.r 5
              have p6 : wr.cell? ⟨w.heap.size, 6, none⟩ = some (.int .i64 0) := cellB MJ.out.r 6 rfl
              have u6' := frozenB MJ.out.r 6
              have p7 : wr.cell? ⟨w.heap.size, 7, none⟩ = some (.int .i64 0) := cellB MJ.out.r 7 rfl
              have u7' := frozenB MJ.out.r 7
              have p8 : wr.cell? ⟨w.heap.size, 8, none⟩ = some (.string ⟨#[]⟩) := cellB MJ.out.r 8 rfl
              have u8' := frozenB MJ.out.r 8
              have nz1 : ¬ w1.heap.size = w.heap.size := by omega
              have nz2 : ¬ w.heap.size = w1.heap.size := by omega
              go_wp2_with fail
              obtain ⟨f1, f2, f3, f4⟩ := MJ.out.put9 hbw OJ.out (v0 := .int .i64 25) (v1 := .string ⟨x0.toArray⟩) (v2 := .string ⟨x1.toArray⟩) (v3 := .string ⟨x2.toArray⟩) (v4 := .string ⟨x3.toArray⟩) (v5 := .slice A2 ws.length cp2) (v6 := .int .i64 0) (v7 := .int .i64 0) (v8 := .string ⟨#[]⟩)
              refine bodyPost_ret (v := .agg #[.int .i64 25, .string ⟨x0.toArray⟩, .string ⟨x1.toArray⟩, .string ⟨x2.toArray⟩, .string ⟨x3.toArray⟩, .slice A2 ws.length cp2, .int .i64 0, .int .i64 0, .string ⟨#[]⟩]) (results_ln rfl rfl (blk_put9 MJ.out.r) (by simp [Value.oneCell'])) rfl ?_
              unfold MLineOut
              rw [HML.out]
              exact ⟨A2, cp2, by rfl, f1, f2, f3, f4⟩
      · obtain ⟨o1, o32, o22, o23, o24, o25⟩ := hops
        have hla : lineArgs L K4 op = ([], K4) := if_neg (by simp [takesArgs, o22, o23, o24, o25, o32])
        have hcv : lineCv L K4 op = (Val.zero, K4) := by unfold lineCv; rw [if_neg o1, if_neg o32]
        rw [hcv] at HML
        dsimp only at HML
        clear hcv
        have t1 : (op == 1) = false := by simpa using o1
        have t32 : (op == 32) = false := by simpa using o32
        have t22 : (op == 22) = false := by simpa using o22
        have t23 : (op == 23) = false := by simpa using o23
        have t24 : (op == 24) = false := by simpa using o24
        have t25 : (op == 25) = false := by simpa using o25
        clear o1 o32 o22 o23 o24 o25
        have l0 : X.cell? ⟨w1.heap.size, 0, none⟩ = some (.int .i64 op) := cellB MS4.out.l 0 rfl
        have l1 : X.cell? ⟨w1.heap.size, 1, none⟩ = some (.string ⟨x0.toArray⟩) := cellB MS4.out.l 1 rfl
        have l2 : X.cell? ⟨w1.heap.size, 2, none⟩ = some (.string ⟨x1.toArray⟩) := cellB MS4.out.l 2 rfl
        have l3 : X.cell? ⟨w1.heap.size, 3, none⟩ = some (.string ⟨x2.toArray⟩) := cellB MS4.out.l 3 rfl
        have l4 : X.cell? ⟨w1.heap.size, 4, none⟩ = some (.string ⟨x3.toArray⟩) := cellB MS4.out.l 4 rfl
        have l5 : X.cell? ⟨w1.heap.size, 5, none⟩ = some (.slice none 0 0) := cellB MS4.out.l 5 rfl
        have l6 : X.cell? ⟨w1.heap.size, 6, none⟩ = some (.int .i64 0) := cellB MS4.out.l 6 rfl
        have l7 : X.cell? ⟨w1.heap.size, 7, none⟩ = some (.int .i64 0) := cellB MS4.out.l 7 rfl
        have l8 : X.cell? ⟨w1.heap.size, 8, none⟩ = some (.string ⟨#[]⟩) := cellB MS4.out.l 8 rfl
        have p0 : X.cell? ⟨w.heap.size, 0, none⟩ = some (.int .i64 0) := cellB MS4.out.r 0 rfl
        have u0' := frozenB MS4.out.r 0
        have p1 : X.cell? ⟨w.heap.size, 1, none⟩ = some (.string ⟨#[]⟩) := cellB MS4.out.r 1 rfl
        have u1' := frozenB MS4.out.r 1
        have p2 : X.cell? ⟨w.heap.size, 2, none⟩ = some (.string ⟨#[]⟩) := cellB MS4.out.r 2 rfl
        have u2' := frozenB MS4.out.r 2
        have p3 : X.cell? ⟨w.heap.size, 3, none⟩ = some (.string ⟨#[]⟩) := cellB MS4.out.r 3 rfl
        have u3' := frozenB MS4.out.r 3
        have p4 : X.cell? ⟨w.heap.size, 4, none⟩ = some (.string ⟨#[]⟩) := cellB MS4.out.r 4 rfl
        have u4' := frozenB MS4.out.r 4
        have p5 : X.cell? ⟨w.heap.size, 5, none⟩ = some (.slice none 0 0) := cellB MS4.out.r 5 rfl
        have u5' := frozenB MS4.out.r 5
        have p6 : X.cell? ⟨w.heap.size, 6, none⟩ = some (.int .i64 0) := cellB MS4.out.r 6 rfl
        have u6' := frozenB MS4.out.r 6
        have p7 : X.cell? ⟨w.heap.size, 7, none⟩ = some (.int .i64 0) := cellB MS4.out.r 7 rfl
        have u7' := frozenB MS4.out.r 7
        have p8 : X.cell? ⟨w.heap.size, 8, none⟩ = some (.string ⟨#[]⟩) := cellB MS4.out.r 8 rfl
        have u8' := frozenB MS4.out.r 8
        have nz1 : ¬ w1.heap.size = w.heap.size := by omega
        have nz2 : ¬ w.heap.size = w1.heap.size := by omega
        go_wp2_with fail
        obtain ⟨f1, f2, f3, f4⟩ := MS4.out.put9 hbw (own_nil _ _ _ _) (v0 := .int .i64 op) (v1 := .string ⟨x0.toArray⟩) (v2 := .string ⟨x1.toArray⟩) (v3 := .string ⟨x2.toArray⟩) (v4 := .string ⟨x3.toArray⟩) (v5 := .slice none 0 0) (v6 := .int .i64 0) (v7 := .int .i64 0) (v8 := .string ⟨#[]⟩)
        refine bodyPost_ret (v := .agg #[.int .i64 op, .string ⟨x0.toArray⟩, .string ⟨x1.toArray⟩, .string ⟨x2.toArray⟩, .string ⟨x3.toArray⟩, .slice none 0 0, .int .i64 0, .int .i64 0, .string ⟨#[]⟩]) (results_ln rfl rfl (blk_put9 MS4.out.r) (by simp [Value.oneCell'])) rfl ?_
        unfold MLineOut
        rw [HML.out]
        rw [hla]
        exact ⟨none, 0, by rfl, f1, f2, f3, f4⟩
end Go.Proofs.YtdkcdodkhghfhaaGreatDoor
