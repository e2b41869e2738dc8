/- The reference: a program made of numbers. -/
import Derived.Test.YtdkcdodkhghfhaaGreatDoorMD0
namespace Go.Proofs.YtdkcdodkhghfhaaGreatDoor
open Go.RowKit Go.Proofs.YtdkcdodkhghfhaaGreatDoorW.PrintWords Go.Proofs.YtdkcdodkhghfhaaGreatDoorW.PrintLast

def MadeOut (L : List Int) (w : World) (e : Ending) (w' : World) : Prop :=
  ∃ vc vf, e = .returned (.agg #[vc, vf]) ∧ PrgIn w' vc vf (madeP L) ∧ Below w.heap.size w w'
set_option maxHeartbeats 8000000 in
set_option maxRecDepth 100000 in
theorem Made_calls (L : List Int) (A : Option Addr) (cp : Nat) (w : World) (hA : NumsIn L A w.heap.size w) (hL : L.length ≤ 1000000000000000000) :
    Calls Tryz.prog 14 #[.slice A L.length cp] w (MadeOut L w) := by
  have HA := Lib.hid hA
  clear hA
  have HMP : Hid (madeP L = ⟨(madeCs L (nxtS L 0 4).2 (nxtS L 0 4).1.toNat).1, (madeFs L (nxtS L (madeCs L (nxtS L 0 4).2 (nxtS L 0 4).1.toNat).2 5).2 (nxtS L (madeCs L (nxtS L 0 4).2 (nxtS L 0 4).1.toNat).2 5).1.toNat).1⟩) := Lib.hid rfl
  go_enter Tryz.func14, Tryz.ntmps14
  go_wp2_with fail
  have hn0 : NumAt L A cp (w.heap.size + 1) 0 (((w.alloc (.cells #[.slice none 0 0, .slice none 0 0] 27)).alloc (.cells #[.slice A L.length cp, .int .i64 0] 58)).alloc (.cells #[.slice none 0 0, .slice none 0 0] 27)) := heap_new' _ _ _ (by simp) |> fun h => (((Below.refl _ _).alloc (Nat.le_refl _) _).block _ (sizeB h)).trans h
  have hX : MdX L A cp w 0 [] [] ⟨none, 0⟩ ⟨none, 0⟩ (((w.alloc (.cells #[.slice none 0 0, .slice none 0 0] 27)).alloc (.cells #[.slice A L.length cp, .int .i64 0] 58)).alloc (.cells #[.slice none 0 0, .slice none 0 0] 27)) := by
    have hr : (w.alloc (.cells #[.slice none 0 0, .slice none 0 0] 27)).heap[w.heap.size]? = _ := heap_new _ _
    have hu : Below w.heap.size w (((w.alloc (.cells #[.slice none 0 0, .slice none 0 0] 27)).alloc (.cells #[.slice A L.length cp, .int .i64 0] 58)).alloc (.cells #[.slice none 0 0, .slice none 0 0] 27)) := (((Below.refl _ _).alloc (Nat.le_refl _) _).alloc (by simp) _).alloc (by simp; omega) _
    have hu1 := ((Below.refl (w.alloc (.cells #[.slice none 0 0, .slice none 0 0] 27)).heap.size (w.alloc (.cells #[.slice none 0 0, .slice none 0 0] 27))).alloc (Nat.le_refl _) (.cells #[.slice A L.length cp, .int .i64 0] 58)).alloc (by simp) (.cells #[.slice none 0 0, .slice none 0 0] 27)
    exact ⟨(hu1.block _ (sizeB hr)).trans hr, hn0, heap_new' _ _ _ (by simp), own_nil _ _ _ _, own_nil _ _ _ _, by simp, by simp, Nat.zero_le _, hu⟩
  have X := Lib.hid hX
  clear hn0 hX
  refine (next_calls L A cp (w.heap.size + 1) 0 4 _ X.out.n (X.out.nums HA.out) (by omega) hL (Nat.zero_le _)).mono ?_
  rintro e w1 ⟨rfl, hN, hT⟩
  have X1 := Lib.hid (X.out.num (NumW.of_to hT) hN (nxt_le L 0 4 (Nat.zero_le _)))
  have hr := nxtS_range L 0 4 (by omega)
  clear hN hT X
  generalize (nxtS L 0 4).2 = K1 at *
  generalize (nxtS L 0 4).1 = n1 at *
  obtain ⟨nc, rfl⟩ : ∃ nc : Nat, n1 = nc := ⟨n1.toNat, by omega⟩
  rw [Int.toNat_natCast] at HMP
  have hnc : nc < 4 := by omega
  clear hr
  obtain ⟨i50, hi50, hz50, hs50, hb50⟩ := info_parts info50
  obtain ⟨i52, hi52, hz52, hs52, hb52⟩ := info_parts info52
  obtain ⟨i45, hi45, hz45, hs45, hb45⟩ := info_parts info45
  obtain ⟨i40, hi40, hz40, hs40, hb40⟩ := info_parts info40
  go_wp2_with fail
  go_loopw [6] (fun i wr => ∃ (j : Nat) (xs : List ClsX) (sc : Sl), j ≤ nc ∧ i = .int .i64 j ∧ xs.map (·.1) = (madeCs L K1 j).1 ∧ MdX L A cp w (madeCs L K1 j).2 xs [] sc ⟨none, 0⟩ wr) (fun i _ => nc - (intOf i).toNat)
  case atStart => exact ⟨0, [], ⟨none, 0⟩, Nat.zero_le _, rfl, rfl, X1.out⟩
  case round =>
    clear X1
    obtain ⟨j, xs, sc, hj, rfl, hxs, hX⟩ := hrel
    have XJ := Lib.hid hX
    clear hX
    by_cases hjl : j < nc
    · have hcs : Hid (madeCs L K1 (j + 1) = ((madeCs L K1 j).1 ++ [(madeC L (madeCs L K1 j).2).1], (madeC L (madeCs L K1 j).2).2)) := Lib.hid rfl
      have hxl : xs.length = j := by rw [← List.length_map (·.1), hxs, (madeCs_ok L K1 j).2]
      subst hxl
      generalize madeCs L K1 xs.length = cj at *
      obtain ⟨cs, Kj⟩ := cj
      dsimp only at XJ hcs hxs
      have HMC : Hid (madeC L Kj = (⟨wordN (nxtS L Kj 8).1, (wordsC L (nxtS L Kj 8).2 4).1, (madeMs L (nxtS L (wordsC L (nxtS L Kj 8).2 4).2 3).2 (nxtS L (wordsC L (nxtS L Kj 8).2 4).2 3).1.toNat).1⟩, (madeMs L (nxtS L (wordsC L (nxtS L Kj 8).2 4).2 3).2 (nxtS L (wordsC L (nxtS L Kj 8).2 4).2 3).1.toNat).2)) := Lib.hid rfl
      have HXS := Lib.hid hxs
      clear hxs
      go_wp2_with fail
      refine (next_calls L A cp (w.heap.size + 1) Kj 8 _ XJ.out.n (XJ.out.nums HA.out) (by omega) hL XJ.out.kl).mono ?_
      rintro e w3 ⟨rfl, hN, hT⟩
      have X3 := Lib.hid (XJ.out.num (NumW.of_to hT) hN (nxt_le _ _ _ XJ.out.kl))
      clear hN hT XJ
      generalize (nxtS L Kj 8).2 = K8 at *
      generalize (nxtS L Kj 8).1 = n8 at *
      go_wp2_with fail
      refine (word_calls _ _).mono ?_
      rintro e w4 ⟨rfl, hb4⟩
      have X4 := Lib.hid (X3.out.below hb4)
      clear hb4 X3
      go_wp2_with fail
      refine (words_made L A cp (w.heap.size + 1) K8 4 _ X4.out.n (X4.out.nums HA.out) hL X4.out.kl (by omega) (by omega)).mono ?_
      rintro e w5 ⟨fA, fcp, rfl, hN, hk, hT, hO⟩
      have X5 := Lib.hid (X4.out.num hT hN hk)
      have F5 := Lib.hid (RdB.of_own hO)
      clear hN hk hT hO X4
      generalize (wordsC L K8 4).2 = K9 at *
      generalize (wordsC L K8 4).1 = fs at *
      generalize wordN n8 = nm at *
      go_wp2_with fail
      have hbw5 : w.heap.size + 1 < w5.heap.size := by have := X5.out.z; omega
      have hA6 := ((X5.out.below ((Below.refl _ _).alloc (Nat.le_refl _) (.cells #[.string ⟨nm.toArray⟩, .slice fA fs.length fcp, .slice none 0 0] 50))).nums HA.out)
      refine (next_calls L A cp (w.heap.size + 1) K9 3 _ (X5.out.n.below ((Below.refl _ _).alloc (Nat.le_refl _) _)) hA6 (by omega) hL X5.out.kl).mono ?_
      rintro e w6 ⟨rfl, hN, hT⟩
      have N6 := Lib.hid hN
      have T6 := Lib.hid (((NumW.refl (w.heap.size + 1) w5).alloc (by omega) (.cells #[.string ⟨nm.toArray⟩, .slice fA fs.length fcp, .slice none 0 0] 50)).trans (NumW.of_to hT))
      have B6 := Lib.hid ((hT.k _ (by omega)).trans (heap_new w5 (.cells #[.string ⟨nm.toArray⟩, .slice fA fs.length fcp, .slice none 0 0] 50)))
      have hr := nxtS_range L K9 3 (by omega)
      have hkm := nxt_le L K9 3 X5.out.kl
      clear hN hT hA6
      generalize (nxtS L K9 3).2 = Km at *
      generalize (nxtS L K9 3).1 = n3 at *
      obtain ⟨nn, rfl⟩ : ∃ nn : Nat, n3 = nn := ⟨n3.toNat, by omega⟩
      rw [Int.toNat_natCast] at HMC
      have hnn : nn < 3 := by omega
      clear hr
      go_wp2_with fail
      go_loopw [9] (fun i wv => ∃ (q : Nat) (A' : Option Addr) (cp' : Nat), q ≤ nn ∧ i = .int .i64 q ∧ NumAt L A cp (w.heap.size + 1) (madeMs L Km q).2 wv ∧ NumW (w.heap.size + 1) w5 wv ∧ wv.heap[w5.heap.size]? = some (.cells #[.string ⟨nm.toArray⟩, .slice fA fs.length fcp, .slice A' q cp'] 50 (0, 0)) ∧ wv.ownsRow w5.heap.size 52 2 (.slice A' q cp') q (mCells (madeMs L Km q).1)) (fun i _ => nn - (intOf i).toNat)
      case atStart => exact ⟨0, none, 0, Nat.zero_le _, rfl, N6.out, T6.out, B6.out, own_nil _ _ _ _⟩
      case round =>
        clear N6 T6 B6
        obtain ⟨q, A2, cp2, hq, rfl, hN, hT, hB, hO⟩ := hrel
        have NQ := Lib.hid hN
        have TQ := Lib.hid hT
        have BQ := Lib.hid hB
        have OQ := Lib.hid hO
        clear hN hT hB hO
        by_cases hql : q < nn
        · have hms : Hid (madeMs L Km (q + 1) = ((madeMs L Km q).1 ++ [(wordN (nxtS L (madeMs L Km q).2 8).1, wordN (nxtS L (nxtS L (madeMs L Km q).2 8).2 8).1)], (nxtS L (nxtS L (madeMs L Km q).2 8).2 8).2)) := Lib.hid rfl
          have hkq := madeMs_le L Km hkm q
          generalize madeMs L Km q = mq at *
          obtain ⟨ms, Kq⟩ := mq
          dsimp only at NQ OQ hms hkq
          have hdr : Below wr.heap.size wr wr.drew := ⟨rfl, rfl, rfl, Nat.le_refl _, fun _ _ => rfl⟩
          have DN := Lib.hid (NQ.out.below hdr)
          have DT := Lib.hid (TQ.out.trans (NumW.of_below hdr (by have := TQ.out.u.size; omega)))
          have DB : Hid (wr.drew.heap[w5.heap.size]? = some (.cells #[.string ⟨nm.toArray⟩, .slice fA fs.length fcp, .slice A2 q cp2] 50 (0, 0))) := Lib.hid BQ.out
          have DO := Lib.hid OQ.out.drew
          have e5 : wr.drew.cell? ⟨w5.heap.size, 2, none⟩ = some (.slice A2 q cp2) := cellB DB.out 2 rfl
          clear hdr NQ TQ BQ OQ
          go_wp2_with fail
          refine start_ (n := 13) (S := fun w' => w'.cell? ⟨w5.heap.size, 2, none⟩ = some (.slice A2 q cp2)) (ds := [12]) #[false, false, false, false, false, false, false, false, false, false, false, false, false] (by kernel_rfl) rfl rfl e5 (fun hHeld => ?_)
          generalize wr.drew = W at DN DT DB DO e5 hHeld ⊢
          refine pure_ (i := 0) (N := some 38) (v := ?_) (a' := ?_) #[true, false, false, false, false, false, false, false, false, false, false, false, false] rfl rfl (by kernel_rfl) (fun _ _ _ h => h) (Or.inl ⟨by rfl, ?_⟩) ?_ ?_
          rotate_left
          · intro w'
            go_simp
            with_reducible rfl
          rotate_left
          · simp only [Act.put, List.setIfInBounds_toArray, List.set_cons_zero, List.set_cons_succ]
            rfl
          refine take_ (i := 1) (N := some 39) (v := ?_) (a' := ?_) #[true, true, false, false, false, false, false, false, false, false, false, false, false] rfl rfl (by kernel_rfl) (fun _ _ _ h => h) (Or.inl ⟨by rfl, ?_⟩) hHeld ?_ ?_
          rotate_left
          · rintro w' s0
            go_simp
            with_reducible rfl
          rotate_left
          · simp only [Act.put, List.setIfInBounds_toArray, List.set_cons_zero, List.set_cons_succ]
            rfl
          refine pure_ (i := 2) (N := some 40) (v := ?_) (a' := ?_) #[true, true, true, false, false, false, false, false, false, false, false, false, false] rfl rfl (by kernel_rfl) (fun _ _ _ h => h) (Or.inl ⟨by rfl, ?_⟩) ?_ ?_
          rotate_left
          · intro w'
            go_simp
            with_reducible rfl
          rotate_left
          · simp only [Act.put, List.setIfInBounds_toArray, List.set_cons_zero, List.set_cons_succ]
            rfl
          refine pure_ (i := 5) (N := some 43) (v := ?_) (a' := ?_) #[true, true, true, false, false, true, false, false, false, false, false, false, false] rfl rfl (by kernel_rfl) (fun _ _ _ h => h) (Or.inl ⟨by rfl, ?_⟩) ?_ ?_
          rotate_left
          · intro w'
            go_simp
            with_reducible rfl
          rotate_left
          · simp only [Act.put, List.setIfInBounds_toArray, List.set_cons_zero, List.set_cons_succ]
            rfl
          refine one_ (i := 3) (N := some 41) #[true, true, true, true, false, true, false, false, false, false, false, false, false] rfl rfl (by kernel_rfl) (by simp) (fun K hK => ?_)
          refine goes_ Tryz.func39 (by kernel_rfl) rfl #[.pointer (some ⟨w.heap.size + 1, 0, none⟩), .int .i64 8] rfl rfl rfl (by simp only [List.map_toArray, List.map_cons, List.map_nil]; rfl) ?_
          refine (next_calls L A cp (w.heap.size + 1) Kq 8 W DN.out ((X5.out.num DT.out DN.out (by first | exact hkq | exact nxt_le _ _ _ hkq)).nums HA.out) (by omega) hL (by first | exact hkq | exact nxt_le _ _ _ hkq)).mono ?_
          rintro e W13 ⟨rfl, hN, hT⟩
          have N13 := Lib.hid hN
          have T13 := Lib.hid (DT.out.trans (NumW.of_to hT))
          have B13 := Lib.hid ((hT.k _ (by omega)).trans DB.out)
          have O13 := Lib.hid ((TKeep.of_num DN.out hT).own (by simp) DO.out)
          have e13 : W13.cell? ⟨w5.heap.size, 2, none⟩ = some (.slice A2 q cp2) := cellB B13.out 2 rfl
          clear hN hT
          refine ⟨_, rfl, ?_⟩
          refine hK.out _ _ e13 (fun hHeld => ?_)
          refine one_ (i := 4) (N := some 42) #[true, true, true, true, true, true, false, false, false, false, false, false, false] rfl rfl (by kernel_rfl) (by simp) (fun K hK => ?_)
          refine goes_ Tryz.func40 (by kernel_rfl) rfl #[.int .i64 (nxtS L Kq 8).1] rfl rfl rfl (by simp only [List.map_toArray, List.map_cons, List.map_nil]; rfl) ?_
          refine (word_calls _ _).mono ?_
          rintro e W14 ⟨rfl, hb⟩
          have N14 := Lib.hid (N13.out.below hb)
          have T14 := Lib.hid (T13.out.trans (NumW.of_below hb (by have := T13.out.u.size; omega)))
          have B14 := Lib.hid ((hb.block _ (sizeB B13.out)).trans B13.out)
          have O14 := Lib.hid ((TKeep.below (T := []) hb).own (by simp) O13.out)
          have e14 : W14.cell? ⟨w5.heap.size, 2, none⟩ = some (.slice A2 q cp2) := cellB B14.out 2 rfl
          have z14 := sizeB B14.out
          clear hb
          refine ⟨_, rfl, ?_⟩
          refine hK.out _ _ e14 (fun hHeld => ?_)
          refine one_ (i := 6) (N := some 44) #[true, true, true, true, true, true, true, false, false, false, false, false, false] rfl rfl (by kernel_rfl) (by simp) (fun K hK => ?_)
          refine goes_ Tryz.func39 (by kernel_rfl) rfl #[.pointer (some ⟨w.heap.size + 1, 0, none⟩), .int .i64 8] rfl rfl rfl (by simp only [List.map_toArray, List.map_cons, List.map_nil]; rfl) ?_
          refine (next_calls L A cp (w.heap.size + 1) (nxtS L Kq 8).2 8 W14 N14.out ((X5.out.num T14.out N14.out (by first | exact hkq | exact nxt_le _ _ _ hkq)).nums HA.out) (by omega) hL (by first | exact hkq | exact nxt_le _ _ _ hkq)).mono ?_
          rintro e W15 ⟨rfl, hN, hT⟩
          have N15 := Lib.hid hN
          have T15 := Lib.hid (T14.out.trans (NumW.of_to hT))
          have B15 := Lib.hid ((hT.k _ (by omega)).trans B14.out)
          have O15 := Lib.hid ((TKeep.of_num N14.out hT).own (by simp) O14.out)
          have e15 : W15.cell? ⟨w5.heap.size, 2, none⟩ = some (.slice A2 q cp2) := cellB B15.out 2 rfl
          clear hN hT
          refine ⟨_, rfl, ?_⟩
          refine hK.out _ _ e15 (fun hHeld => ?_)
          refine one_ (i := 7) (N := some 45) #[true, true, true, true, true, true, true, true, false, false, false, false, false] rfl rfl (by kernel_rfl) (by simp) (fun K hK => ?_)
          refine goes_ Tryz.func40 (by kernel_rfl) rfl #[.int .i64 (nxtS L (nxtS L Kq 8).2 8).1] rfl rfl rfl (by simp only [List.map_toArray, List.map_cons, List.map_nil]; rfl) ?_
          refine (word_calls _ _).mono ?_
          rintro e W16 ⟨rfl, hb⟩
          have N16 := Lib.hid (N15.out.below hb)
          have T16 := Lib.hid (T15.out.trans (NumW.of_below hb (by have := T15.out.u.size; omega)))
          have B16 := Lib.hid ((hb.block _ (sizeB B15.out)).trans B15.out)
          have O16 := Lib.hid ((TKeep.below (T := []) hb).own (by simp) O15.out)
          have e16 : W16.cell? ⟨w5.heap.size, 2, none⟩ = some (.slice A2 q cp2) := cellB B16.out 2 rfl
          have z16 := sizeB B16.out
          clear hb
          refine ⟨_, rfl, ?_⟩
          refine hK.out _ _ e16 (fun hHeld => ?_)
          refine pure_ (i := 8) (N := some 46) (v := ?_) (a' := ?_) #[true, true, true, true, true, true, true, true, true, false, false, false, false] rfl rfl (by kernel_rfl) (fun _ _ _ h => h) (Or.inl ⟨by rfl, ?_⟩) ?_ ?_
          rotate_left
          · intro w'
            go_simp
            with_reducible rfl
          rotate_left
          · simp only [Act.put, List.setIfInBounds_toArray, List.set_cons_zero, List.set_cons_succ]
            rfl
          refine one_ (i := 9) (N := some 47) #[true, true, true, true, true, true, true, true, true, true, false, false, false] rfl rfl (by kernel_rfl) (by simp) (fun K hK => ?_)
          refine value_ (v := .slice (some ⟨W16.heap.size, 0, none⟩) 1 1) (w1 := W16.alloc (.cells #[.string ⟨(wordN (nxtS L Kq 8).1).toArray⟩, .string ⟨(wordN (nxtS L (nxtS L Kq 8).2 8).1).toArray⟩] 52)) rfl rfl (by go_simp) ?_
          refine hK.out _ _ ((World.cell?_alloc_past _ _ _ z16).trans hHeld) (fun hHeld => ?_)
          refine one_ (i := 10) (N := some 48) #[true, true, true, true, true, true, true, true, true, true, true, false, false] rfl rfl (by kernel_rfl) (by simp) (fun K hK => ?_)
          refine step_append_lies (W16.alloc (.cells #[.string ⟨(wordN (nxtS L Kq 8).1).toArray⟩, .string ⟨(wordN (nxtS L (nxtS L Kq 8).2 8).1).toArray⟩] 52)) (by rfl) _ _ _ (by rfl) w5.heap.size 52 i52 _ 2 32 Tryz.underlying48 hi52 hz52 hs52 hb52 rfl (by omega) (.slice A2 q cp2) q (mCells ms) (by rfl) (O16.out.alloc _) ⟨W16.heap.size, 0, none⟩ 1 1 [.string ⟨(wordN (nxtS L Kq 8).1).toArray⟩, .string ⟨(wordN (nxtS L (nxtS L Kq 8).2 8).1).toArray⟩] (by rfl) (by rfl) (World.news_of_block (cs := #[.string ⟨(wordN (nxtS L Kq 8).1).toArray⟩, .string ⟨(wordN (nxtS L (nxtS L Kq 8).2 8).1).toArray⟩]) (t := 52) (fr := (0, 0)) (heap_alloc_new W16 _)) (by simp [Value.oneCell']) (by omega) (by unfold maxLen; omega) (by omega) (by have := T16.out.u.size; simp; omega) (W16.heap.size + 1) (by simp) ?_
          intro gg cap W17 hown hgrow hat hlt
          have N17 := Lib.hid ((N16.out.below ((Below.refl _ _).alloc (Nat.le_refl _) _)).grownG (O16.out.alloc _) (by decide) hgrow)
          have T17 := Lib.hid ((T16.out.alloc (by omega) _).grown (by omega) (O16.out.alloc _) hgrow)
          have hB16 : (W16.alloc (.cells #[.string ⟨(wordN (nxtS L Kq 8).1).toArray⟩, .string ⟨(wordN (nxtS L (nxtS L Kq 8).2 8).1).toArray⟩] 52)).heap[w5.heap.size]? = _ := (((Below.refl _ _).alloc (Nat.le_refl _) _).block _ z16).trans B16.out
          have B17 := Lib.hid ((hgrow.block _ (sizeB hB16) (own_ne (O16.out.alloc _) hB16 (by decide))).trans hB16)
          have O17 := Lib.hid hown
          change K (Act.put _ (some 48) _) W17
          have u17 : W17.cell? ⟨w5.heap.size, 2, none⟩ = _ := cellB B17.out 2 rfl
          have v17 := frozenB B17.out 2
          clear hown hgrow hat hB16
          refine hK.out _ _ u17 (fun hHeld => ?_)
          refine pure_ (i := 11) (N := some 49) (v := ?_) (a' := ?_) #[true, true, true, true, true, true, true, true, true, true, true, true, false] rfl rfl (by kernel_rfl) (fun _ _ _ h => h) (Or.inl ⟨by rfl, ?_⟩) ?_ ?_
          rotate_left
          · intro w'
            go_simp
            with_reducible rfl
          rotate_left
          · simp only [Act.put, List.setIfInBounds_toArray, List.set_cons_zero, List.set_cons_succ]
            rfl
          refine last_ (i := 12) (N := none) #[true, true, true, true, true, true, true, true, true, true, true, true, true] rfl rfl (by kernel_rfl) (by simp) (fun K hK => ?_)
          refine skip_ (w1 := W17.setCell ⟨w5.heap.size, 2, none⟩ (.slice (some ⟨gg, 0, none⟩) (q + 1) cap)) rfl rfl (by go_simp) ?_
          refine hK.out _ _ ?_
          refine done_ (by kernel_rfl) ?_
          go_wp2_with fail
          refine ⟨⟨q + 1, some ⟨gg, 0, none⟩, cap, hql, rfl, ?_, T17.out.set (by omega) (Nat.le_refl _) _, ?_, ?_⟩, by simp [intOf]; omega⟩
          · rw [hms.out]
            exact (Below.heap_setCell _ _ _ _ (by simp; omega)).trans N17.out
          · have := blk_set B17.out 2 (.slice (some ⟨gg, 0, none⟩) (q + 1) cap)
            simpa using this
          · rw [hms.out]
            have h := own_setN (i := 2) O17.out (own_ne O17.out B17.out (by decide)) (Value.slice (some ⟨gg, 0, none⟩) (q + 1) cap)
            simpa [mCells, sv] using h
        · have hqn : q = nn := by omega
          subst hqn
          have hml := (madeMs_ok L Km q).2
          have hkq := madeMs_le L Km hkm q
          generalize madeMs L Km q = mq at *
          obtain ⟨ms, Kq⟩ := mq
          dsimp only at NQ OQ HMC hml hkq
          subst hml
          have XQ := Lib.hid (X5.out.num TQ.out NQ.out hkq)
          have FQ : Hid (RdB wr 9 fA (strs fs)) := Lib.hid ((TKeep.of_numW X5.out.n TQ.out).rd (by simp) F5.out)
          have b0 : wr.cell? ⟨w5.heap.size, 0, none⟩ = some (.string ⟨nm.toArray⟩) := cellB BQ.out 0 rfl
          have b1 : wr.cell? ⟨w5.heap.size, 1, none⟩ = some (.slice fA fs.length fcp) := cellB BQ.out 1 rfl
          have b2 : wr.cell? ⟨w5.heap.size, 2, none⟩ = some (.slice A2 ms.length cp2) := cellB BQ.out 2 rfl
          have p0 : wr.cell? ⟨w.heap.size + 1 + 1, 0, none⟩ = some (.slice sc.A xs.length sc.cap) := cellB XQ.out.p 0 rfl
          have hrd : RdB (wr.alloc (.cells #[.string ⟨nm.toArray⟩, .slice fA fs.length fcp, .slice A2 ms.length cp2] 50)) 50 (some ⟨wr.heap.size, 0, none⟩) [.string ⟨nm.toArray⟩, .slice fA fs.length fcp, .slice A2 ms.length cp2] := .inr ⟨_, 0, _, rfl, heap_new _ _, fun j u h => by rw [Nat.zero_add, ← Array.getElem?_toList]; exact h⟩
          have HRD := Lib.hid hrd
          clear hrd NQ TQ F5 X5
          go_wp2_with (at_builtin; refine wpList_append_rd _ rfl (.tmp 51) (.tmp 53) _ rfl w.heap.size 50 50 i50 _ 3 64 Tryz.underlying24 hi50 hz50 hs50 hb50 rfl (by omega) _ xs.length _ rfl (XQ.out.oc.alloc _) (some ⟨wr.heap.size, 0, none⟩) 1 1 _ rfl HRD.out rfl ?c1 (by unfold maxLen; omega) (by omega) (by have := XQ.out.z; simp; omega) ?_)
          case c1 => simp [Value.oneCell']
          intro v' W2 hown2 hgrow _
          obtain ⟨g9, cp9, rfl, hg9, hcp9, hlt9⟩ := own_slice hown2 (by omega)
          have XA := Lib.hid (XQ.out.below ((Below.refl _ _).alloc (Nat.le_refl _) (.cells #[.string ⟨nm.toArray⟩, .slice fA fs.length fcp, .slice A2 ms.length cp2] 50)))
          have XN := Lib.hid (XA.out.add_c (x := (⟨nm, fs, ms⟩, ⟨fA, fcp⟩, ⟨A2, cp2⟩)) ⟨FQ.out.below ((Below.refl _ _).alloc (Nat.le_refl _) _), (RdB.of_own OQ.out).below ((Below.refl _ _).alloc (Nat.le_refl _) _)⟩ hown2 hgrow)
          have hp2 := (TKeep.grown (T := [50]) XA.out.oc hgrow (by simp) _ _ _ XA.out.p (by simp)).trans XA.out.p
          have e2 := cellB hp2 0 rfl
          have f2 := frozenB hp2 0
          clear hp2 hown2 hgrow XA HRD
          go_wp2_with fail
          refine ⟨⟨xs.length + 1, xs ++ [(⟨nm, fs, ms⟩, ⟨fA, fcp⟩, ⟨A2, cp2⟩)], ⟨some ⟨g9, 0, none⟩, cp9⟩, hjl, rfl, ?_, ?_⟩, by simp [intOf]; omega⟩
          · rw [hcs.out, HMC.out]
            simp [HXS.out]
          · rw [hcs.out, HMC.out]
            exact XN.out
    · have hjn : j = nc := by omega
      subst hjn
      generalize madeCs L K1 j = cj at *
      obtain ⟨cs, K2⟩ := cj
      dsimp only at XJ HMP hxs
      subst hxs
      go_wp2_with fail
      refine (next_calls L A cp (w.heap.size + 1) K2 5 _ XJ.out.n (XJ.out.nums HA.out) (by omega) hL XJ.out.kl).mono ?_
      rintro e w2 ⟨rfl, hN, hT⟩
      have X2 := Lib.hid (XJ.out.num (NumW.of_to hT) hN (nxt_le _ _ _ XJ.out.kl))
      have hr := nxtS_range L K2 5 (by omega)
      clear hN hT XJ
      generalize (nxtS L K2 5).2 = K3 at *
      generalize (nxtS L K2 5).1 = n5 at *
      obtain ⟨nf, rfl⟩ : ∃ nf : Nat, n5 = nf := ⟨n5.toNat, by omega⟩
      rw [Int.toNat_natCast] at HMP
      have hnf : nf < 5 := by omega
      clear hr
      go_wp2_with fail
      go_loopw [11] (fun i wr => ∃ (j : Nat) (ys : List FnX) (sf : Sl), j ≤ nf ∧ i = .int .i64 j ∧ ys.map (·.1) = (madeFs L K3 j).1 ∧ MdX L A cp w (madeFs L K3 j).2 xs ys sc sf wr) (fun i _ => nf - (intOf i).toNat)
      case atStart => exact ⟨0, [], ⟨none, 0⟩, Nat.zero_le _, rfl, rfl, X2.out⟩
      case round =>
        clear X2
        obtain ⟨j2, ys, sf, hj2, rfl, hys, hX⟩ := hrel
        have XJ := Lib.hid hX
        clear hX
        by_cases hjl : j2 < nf
        · have hcs : Hid (madeFs L K3 (j2 + 1) = ((madeFs L K3 j2).1 ++ [(madeF L (madeFs L K3 j2).2).1], (madeF L (madeFs L K3 j2).2).2)) := Lib.hid rfl
          have hyl : ys.length = j2 := by rw [← List.length_map (·.1), hys, (madeFs_ok L K3 j2).2]
          subst hyl
          generalize madeFs L K3 ys.length = cj at *
          obtain ⟨fs0, Kj⟩ := cj
          dsimp only at XJ hcs hys
          have HMC : Hid (madeF L Kj = (⟨wordN (nxtS L Kj 8).1, (wordsC L (nxtS L Kj 8).2 3).1, (madeLs L (nxtS L (wordsC L (nxtS L Kj 8).2 3).2 13).2 (nxtS L (wordsC L (nxtS L Kj 8).2 3).2 13).1.toNat).1⟩, (madeLs L (nxtS L (wordsC L (nxtS L Kj 8).2 3).2 13).2 (nxtS L (wordsC L (nxtS L Kj 8).2 3).2 13).1.toNat).2)) := Lib.hid rfl
          have HYS := Lib.hid hys
          clear hys
          go_wp2_with fail
          refine (next_calls L A cp (w.heap.size + 1) Kj 8 _ XJ.out.n (XJ.out.nums HA.out) (by omega) hL XJ.out.kl).mono ?_
          rintro e w3 ⟨rfl, hN, hT⟩
          have X3 := Lib.hid (XJ.out.num (NumW.of_to hT) hN (nxt_le _ _ _ XJ.out.kl))
          clear hN hT XJ
          generalize (nxtS L Kj 8).2 = K8 at *
          generalize (nxtS L Kj 8).1 = n8 at *
          go_wp2_with fail
          refine (word_calls _ _).mono ?_
          rintro e w4 ⟨rfl, hb4⟩
          have X4 := Lib.hid (X3.out.below hb4)
          clear hb4 X3
          go_wp2_with fail
          refine (words_made L A cp (w.heap.size + 1) K8 3 _ X4.out.n (X4.out.nums HA.out) hL X4.out.kl (by omega) (by omega)).mono ?_
          rintro e w5 ⟨fA, fcp, rfl, hN, hk, hT, hO⟩
          have X5 := Lib.hid (X4.out.num hT hN hk)
          have F5 := Lib.hid (RdB.of_own hO)
          clear hN hk hT hO X4
          generalize (wordsC L K8 3).2 = K9 at *
          generalize (wordsC L K8 3).1 = fs at *
          generalize wordN n8 = nm at *
          go_wp2_with fail
          have hbw5 : w.heap.size + 1 < w5.heap.size := by have := X5.out.z; omega
          have hA6 := ((X5.out.below ((Below.refl _ _).alloc (Nat.le_refl _) (.cells #[.string ⟨nm.toArray⟩, .slice fA fs.length fcp, .slice none 0 0] 45))).nums HA.out)
          refine (next_calls L A cp (w.heap.size + 1) K9 13 _ (X5.out.n.below ((Below.refl _ _).alloc (Nat.le_refl _) _)) hA6 (by omega) hL X5.out.kl).mono ?_
          rintro e w6 ⟨rfl, hN, hT⟩
          have N6 := Lib.hid hN
          have T6 := Lib.hid (((NumW.refl (w.heap.size + 1) w5).alloc (by omega) (.cells #[.string ⟨nm.toArray⟩, .slice fA fs.length fcp, .slice none 0 0] 45)).trans (NumW.of_to hT))
          have B6 := Lib.hid ((hT.k _ (by omega)).trans (heap_new w5 (.cells #[.string ⟨nm.toArray⟩, .slice fA fs.length fcp, .slice none 0 0] 45)))
          have hr := nxtS_range L K9 13 (by omega)
          have hkm := nxt_le L K9 13 X5.out.kl
          clear hN hT hA6
          generalize (nxtS L K9 13).2 = Km at *
          generalize (nxtS L K9 13).1 = n3 at *
          obtain ⟨nn, rfl⟩ : ∃ nn : Nat, n3 = nn := ⟨n3.toNat, by omega⟩
          rw [Int.toNat_natCast] at HMC
          have hnn : nn < 13 := by omega
          clear hr
          go_wp2_with fail
          go_loopw [14] (fun i wv => ∃ (q : Nat) (zs : List LnX) (A' : Option Addr) (cp' : Nat), q ≤ nn ∧ i = .int .i64 q ∧ zs.map (·.1) = (madeLs L Km q).1 ∧ (madeLs L Km q).2 ≤ L.length ∧ NumAt L A cp (w.heap.size + 1) (madeLs L Km q).2 wv ∧ NumW (w.heap.size + 1) w5 wv ∧ wv.heap[w5.heap.size]? = some (.cells #[.string ⟨nm.toArray⟩, .slice fA fs.length fcp, .slice A' q cp'] 45 (0, 0)) ∧ wv.ownsRow w5.heap.size 40 9 (.slice A' q cp') q (lCells zs) ∧ ∀ z ∈ zs, LnOk wv z) (fun i _ => nn - (intOf i).toNat)
          case atStart => exact ⟨0, [], none, 0, Nat.zero_le _, rfl, rfl, hkm, N6.out, T6.out, B6.out, own_nil _ _ _ _, by simp⟩
          case round =>
            clear N6 T6 B6
            obtain ⟨q, zs, A2, cp2, hq, rfl, hzs, hkq, hN, hT, hB, hO, hZ⟩ := hrel
            have NQ := Lib.hid hN
            have TQ := Lib.hid hT
            have BQ := Lib.hid hB
            have OQ := Lib.hid hO
            have ZQ := Lib.hid hZ
            clear hN hT hB hO hZ
            by_cases hql : q < nn
            · have hms : Hid (madeLs L Km (q + 1) = ((madeLs L Km q).1 ++ [(mLine L (madeLs L Km q).2).1], (mLine L (madeLs L Km q).2).2)) := Lib.hid rfl
              generalize madeLs L Km q = mq at *
              obtain ⟨ms, Kq⟩ := mq
              dsimp only at NQ hms hkq hzs
              have HZS := Lib.hid hzs
              clear hzs
              have hdr : Below wr.heap.size wr wr.drew := ⟨rfl, rfl, rfl, Nat.le_refl _, fun _ _ => rfl⟩
              have DN := Lib.hid (NQ.out.below hdr)
              have DT := Lib.hid (TQ.out.trans (NumW.of_below hdr (by have := TQ.out.u.size; omega)))
              have DB : Hid (wr.drew.heap[w5.heap.size]? = some (.cells #[.string ⟨nm.toArray⟩, .slice fA fs.length fcp, .slice A2 q cp2] 45 (0, 0))) := Lib.hid BQ.out
              have DO := Lib.hid OQ.out.drew
              have DZ : Hid (∀ z ∈ zs, LnOk wr.drew z) := Lib.hid (fun z hz => (ZQ.out z hz).keep (fun _ _ h => h.below hdr))
              have e5 : wr.drew.cell? ⟨w5.heap.size, 2, none⟩ = some (.slice A2 q cp2) := cellB DB.out 2 rfl
              clear hdr NQ TQ BQ OQ ZQ
              go_wp2_with fail
              refine start_ (n := 8) (S := fun w' => w'.cell? ⟨w5.heap.size, 2, none⟩ = some (.slice A2 q cp2)) (ds := [7]) #[false, false, false, false, false, false, false, false] (by kernel_rfl) rfl rfl e5 (fun hHeld => ?_)
              generalize wr.drew = W at DN DT DB DO DZ e5 hHeld ⊢
              refine pure_ (i := 0) (N := some 76) (v := ?_) (a' := ?_) #[true, false, false, false, false, false, false, false] rfl rfl (by kernel_rfl) (fun _ _ _ h => h) (Or.inl ⟨by rfl, ?_⟩) ?_ ?_
              rotate_left
              · intro w'
                go_simp
                with_reducible rfl
              rotate_left
              · simp only [Act.put, List.setIfInBounds_toArray, List.set_cons_zero, List.set_cons_succ]
                rfl
              refine take_ (i := 1) (N := some 77) (v := ?_) (a' := ?_) #[true, true, false, false, false, false, false, false] rfl rfl (by kernel_rfl) (fun _ _ _ h => h) (Or.inl ⟨by rfl, ?_⟩) hHeld ?_ ?_
              rotate_left
              · rintro w' s0
                go_simp
                with_reducible rfl
              rotate_left
              · simp only [Act.put, List.setIfInBounds_toArray, List.set_cons_zero, List.set_cons_succ]
                rfl
              refine pure_ (i := 2) (N := some 78) (v := ?_) (a' := ?_) #[true, true, true, false, false, false, false, false] rfl rfl (by kernel_rfl) (fun _ _ _ h => h) (Or.inl ⟨by rfl, ?_⟩) ?_ ?_
              rotate_left
              · intro w'
                go_simp
                with_reducible rfl
              rotate_left
              · simp only [Act.put, List.setIfInBounds_toArray, List.set_cons_zero, List.set_cons_succ]
                rfl
              refine one_ (i := 3) (N := some 79) #[true, true, true, true, false, false, false, false] rfl rfl (by kernel_rfl) (by simp) (fun K hK => ?_)
              refine goes_ Tryz.func23 (by kernel_rfl) rfl #[.pointer (some ⟨w.heap.size + 1, 0, none⟩)] rfl rfl rfl (by simp only [List.map_toArray, List.map_cons, List.map_nil]; rfl) ?_
              refine (madeLine_calls L A cp (w.heap.size + 1) Kq W DN.out ((X5.out.num DT.out DN.out hkq).nums HA.out) hL hkq).mono ?_
              rintro e W16 ⟨lA, lcp, rfl, hN, hk, hT, hO⟩
              have hk58 := TKeep.of_numW DN.out hT
              have N16 := Lib.hid hN
              have T16 := Lib.hid (DT.out.trans hT)
              have B16 := Lib.hid ((hk58 _ _ _ DB.out (by simp)).trans DB.out)
              have O16 := Lib.hid (hk58.own (by simp) DO.out)
              have Z16 : Hid (∀ z ∈ zs, LnOk W16 z) := Lib.hid (fun z hz => (DZ.out z hz).keep (fun _ _ => hk58.rd (by simp)))
              have L16 := Lib.hid (RdB.of_own hO)
              have HK := Lib.hid hk
              clear hN hT hO hk hk58
              generalize (mLine L Kq).2 = Kn at *
              generalize (mLine L Kq).1 = l at *
              have e16 : W16.cell? ⟨w5.heap.size, 2, none⟩ = some (.slice A2 q cp2) := cellB B16.out 2 rfl
              have z16 := sizeB B16.out
              unfold Ln.cells
              refine ⟨_, rfl, ?_⟩
              refine hK.out _ _ e16 (fun hHeld => ?_)
              refine one_ (i := 4) (N := some 80) #[true, true, true, true, true, false, false, false] rfl rfl (by kernel_rfl) (by simp) (fun K hK => ?_)
              refine value_ (v := .slice (some ⟨W16.heap.size, 0, none⟩) 1 1) (w1 := W16.alloc (.cells #[.int .i64 l.op, .string ⟨l.a.toArray⟩, .string ⟨l.b.toArray⟩, .string ⟨l.c.toArray⟩, .string ⟨l.nm.toArray⟩, .slice lA l.args.length lcp, .int .i64 l.cv.k, .int .i64 l.cv.n, .string ⟨l.cv.s.toArray⟩] 40)) rfl rfl (by go_simp; rfl) ?_
              refine hK.out _ _ ((World.cell?_alloc_past _ _ _ z16).trans hHeld) (fun hHeld => ?_)
              refine one_ (i := 5) (N := some 81) #[true, true, true, true, true, true, false, false] rfl rfl (by kernel_rfl) (by simp) (fun K hK => ?_)
              refine step_append_lies (W16.alloc (.cells #[.int .i64 l.op, .string ⟨l.a.toArray⟩, .string ⟨l.b.toArray⟩, .string ⟨l.c.toArray⟩, .string ⟨l.nm.toArray⟩, .slice lA l.args.length lcp, .int .i64 l.cv.k, .int .i64 l.cv.n, .string ⟨l.cv.s.toArray⟩] 40)) (by rfl) _ _ _ (by rfl) w5.heap.size 40 i40 _ 9 128 Tryz.underlying33 hi40 hz40 hs40 hb40 rfl (by omega) (.slice A2 q cp2) q (lCells zs) (by rfl) (O16.out.alloc _) ⟨W16.heap.size, 0, none⟩ 1 1 [.int .i64 l.op, .string ⟨l.a.toArray⟩, .string ⟨l.b.toArray⟩, .string ⟨l.c.toArray⟩, .string ⟨l.nm.toArray⟩, .slice lA l.args.length lcp, .int .i64 l.cv.k, .int .i64 l.cv.n, .string ⟨l.cv.s.toArray⟩] (by rfl) (by rfl) (World.news_of_block (cs := #[.int .i64 l.op, .string ⟨l.a.toArray⟩, .string ⟨l.b.toArray⟩, .string ⟨l.c.toArray⟩, .string ⟨l.nm.toArray⟩, .slice lA l.args.length lcp, .int .i64 l.cv.k, .int .i64 l.cv.n, .string ⟨l.cv.s.toArray⟩]) (t := 40) (fr := (0, 0)) (heap_alloc_new W16 _)) (by simp [Value.oneCell']) (by omega) (by unfold maxLen; omega) (by omega) (by have := T16.out.u.size; simp; omega) (W16.heap.size + 1) (by simp) ?_
              intro gg cap W17 hown hgrow hat hlt
              have K17 := Lib.hid ((TKeep.alloc [40] W16 (.cells #[.int .i64 l.op, .string ⟨l.a.toArray⟩, .string ⟨l.b.toArray⟩, .string ⟨l.c.toArray⟩, .string ⟨l.nm.toArray⟩, .slice lA l.args.length lcp, .int .i64 l.cv.k, .int .i64 l.cv.n, .string ⟨l.cv.s.toArray⟩] 40)).trans (TKeep.grown (T := [40]) (O16.out.alloc _) hgrow (by simp)))
              have N17 := Lib.hid ((N16.out.below ((Below.refl _ _).alloc (Nat.le_refl _) _)).grownG (O16.out.alloc _) (by decide) hgrow)
              have T17 := Lib.hid ((T16.out.alloc (by omega) _).grown (by omega) (O16.out.alloc _) hgrow)
              have hB16 : (W16.alloc (.cells #[.int .i64 l.op, .string ⟨l.a.toArray⟩, .string ⟨l.b.toArray⟩, .string ⟨l.c.toArray⟩, .string ⟨l.nm.toArray⟩, .slice lA l.args.length lcp, .int .i64 l.cv.k, .int .i64 l.cv.n, .string ⟨l.cv.s.toArray⟩] 40)).heap[w5.heap.size]? = _ := (((Below.refl _ _).alloc (Nat.le_refl _) _).block _ z16).trans B16.out
              have B17 := Lib.hid ((hgrow.block _ (sizeB hB16) (own_ne (O16.out.alloc _) hB16 (by decide))).trans hB16)
              have O17 := Lib.hid hown
              change K (Act.put _ (some 81) _) W17
              have u17 : W17.cell? ⟨w5.heap.size, 2, none⟩ = _ := cellB B17.out 2 rfl
              have v17 := frozenB B17.out 2
              clear hown hgrow hat hB16
              refine hK.out _ _ u17 (fun hHeld => ?_)
              refine pure_ (i := 6) (N := some 82) (v := ?_) (a' := ?_) #[true, true, true, true, true, true, true, false] rfl rfl (by kernel_rfl) (fun _ _ _ h => h) (Or.inl ⟨by rfl, ?_⟩) ?_ ?_
              rotate_left
              · intro w'
                go_simp
                with_reducible rfl
              rotate_left
              · simp only [Act.put, List.setIfInBounds_toArray, List.set_cons_zero, List.set_cons_succ]
                rfl
              refine last_ (i := 7) (N := none) #[true, true, true, true, true, true, true, true] rfl rfl (by kernel_rfl) (by simp) (fun K hK => ?_)
              refine skip_ (w1 := W17.setCell ⟨w5.heap.size, 2, none⟩ (.slice (some ⟨gg, 0, none⟩) (q + 1) cap)) rfl rfl (by go_simp) ?_
              refine hK.out _ _ ?_
              refine done_ (by kernel_rfl) ?_
              go_wp2_with fail
              have k45 : TKeep [45] W17 (W17.setCell ⟨w5.heap.size, 2, none⟩ (.slice (some ⟨gg, 0, none⟩) (q + 1) cap)) := TKeep.set B17.out (by simp)
              refine ⟨⟨q + 1, zs ++ [(l, ⟨lA, lcp⟩)], some ⟨gg, 0, none⟩, cap, hql, rfl, ?_, ?_, ?_, T17.out.set (by omega) (Nat.le_refl _) _, ?_, ?_, ?_⟩, by simp [intOf]; omega⟩
              · rw [hms.out]
                simp [HZS.out]
              · rw [hms.out]
                exact HK.out
              · rw [hms.out]
                exact (Below.heap_setCell _ _ _ _ (by simp; omega)).trans N17.out
              · have := blk_set B17.out 2 (.slice (some ⟨gg, 0, none⟩) (q + 1) cap)
                simpa using this
              · have h := own_setN (i := 2) O17.out (own_ne O17.out B17.out (by decide)) (Value.slice (some ⟨gg, 0, none⟩) (q + 1) cap)
                have hc : lCells (zs ++ [(l, ⟨lA, lcp⟩)]) = lCells zs ++ [.int .i64 l.op, .string ⟨l.a.toArray⟩, .string ⟨l.b.toArray⟩, .string ⟨l.c.toArray⟩, .string ⟨l.nm.toArray⟩, .slice lA l.args.length lcp, .int .i64 l.cv.k, .int .i64 l.cv.n, .string ⟨l.cv.s.toArray⟩] := by
                  unfold lCells
                  rw [List.flatMap_append]
                  rfl
                rw [hc]
                exact h
              · intro z hz
                have hz2 : LnOk W16 z := by
                  rcases List.mem_append.1 hz with hz | hz
                  · exact Z16.out z hz
                  · rw [List.mem_singleton.1 hz]; exact L16.out
                exact (hz2.keep (fun _ _ => K17.out.rd (by simp))).keep (fun _ _ => k45.rd (by simp))
            · have hqn : q = nn := by omega
              subst hqn
              have hml : zs.length = q := by rw [← List.length_map (·.1), hzs, (madeLs_ok L Km q).2]
              generalize madeLs L Km q = mq at *
              obtain ⟨ms, Kq⟩ := mq
              dsimp only at NQ HMC hkq hzs
              subst hzs
              subst hml
              have XQ := Lib.hid (X5.out.num TQ.out NQ.out hkq)
              have FQ : Hid (RdB wr 9 fA (strs fs)) := Lib.hid ((TKeep.of_numW X5.out.n TQ.out).rd (by simp) F5.out)
              have b0 : wr.cell? ⟨w5.heap.size, 0, none⟩ = some (.string ⟨nm.toArray⟩) := cellB BQ.out 0 rfl
              have b1 : wr.cell? ⟨w5.heap.size, 1, none⟩ = some (.slice fA fs.length fcp) := cellB BQ.out 1 rfl
              have b2 : wr.cell? ⟨w5.heap.size, 2, none⟩ = some (.slice A2 zs.length cp2) := cellB BQ.out 2 rfl
              have p0 : wr.cell? ⟨w.heap.size + 1 + 1, 1, none⟩ = some (.slice sf.A ys.length sf.cap) := cellB XQ.out.p 1 rfl
              have hrd : RdB (wr.alloc (.cells #[.string ⟨nm.toArray⟩, .slice fA fs.length fcp, .slice A2 zs.length cp2] 45)) 45 (some ⟨wr.heap.size, 0, none⟩) [.string ⟨nm.toArray⟩, .slice fA fs.length fcp, .slice A2 zs.length cp2] := .inr ⟨_, 0, _, rfl, heap_new _ _, fun j u h => by rw [Nat.zero_add, ← Array.getElem?_toList]; exact h⟩
              have HRD := Lib.hid hrd
              clear hrd NQ TQ F5 X5
              go_wp2_with (at_builtin; refine wpList_append_rd _ rfl (.tmp 84) (.tmp 86) _ rfl w.heap.size 45 45 i45 _ 3 64 Tryz.underlying25 hi45 hz45 hs45 hb45 rfl (by omega) _ ys.length _ rfl (XQ.out.of.alloc _) (some ⟨wr.heap.size, 0, none⟩) 1 1 _ rfl HRD.out rfl ?c1 (by unfold maxLen; omega) (by omega) (by have := XQ.out.z; simp; omega) ?_)
              case c1 => simp [Value.oneCell']
              intro v' W2 hown2 hgrow _
              obtain ⟨g9, cp9, rfl, hg9, hcp9, hlt9⟩ := own_slice hown2 (by omega)
              have hb1 : Below wr.heap.size wr (wr.alloc (.cells #[.string ⟨nm.toArray⟩, .slice fA fs.length fcp, .slice A2 zs.length cp2] 45)) := (Below.refl _ _).alloc (Nat.le_refl _) _
              have XA := Lib.hid (XQ.out.below hb1)
              have hfn : FnOk (wr.alloc (.cells #[.string ⟨nm.toArray⟩, .slice fA fs.length fcp, .slice A2 zs.length cp2] 45)) (⟨nm, fs, zs.map (·.1)⟩, ⟨fA, fcp⟩, ⟨A2, cp2⟩) := ⟨FQ.out.below hb1, zs, rfl, (RdB.of_own OQ.out).below hb1, fun z hz => (ZQ.out z hz).keep (fun _ _ h => h.below hb1)⟩
              have XN := Lib.hid (XA.out.add_f (y := (⟨nm, fs, zs.map (·.1)⟩, ⟨fA, fcp⟩, ⟨A2, cp2⟩)) hfn (by simpa [fCells1, sv] using hown2) hgrow)
              have hp2 := (TKeep.grown (T := [45]) XA.out.of hgrow (by simp) _ _ _ XA.out.p (by simp)).trans XA.out.p
              have e2 := cellB hp2 1 rfl
              have f2 := frozenB hp2 1
              clear hp2 hown2 hgrow XA HRD hfn hb1
              go_wp2_with fail
              refine ⟨⟨ys.length + 1, ys ++ [(⟨nm, fs, zs.map (·.1)⟩, ⟨fA, fcp⟩, ⟨A2, cp2⟩)], ⟨some ⟨g9, 0, none⟩, cp9⟩, hjl, rfl, ?_, ?_⟩, by simp [intOf]; omega⟩
              · rw [hcs.out, HMC.out]
                simp [HYS.out]
              · rw [hcs.out, HMC.out]
                exact XN.out
        · have hjn : j2 = nf := by omega
          subst hjn
          generalize madeFs L K3 j2 = cj at *
          obtain ⟨fs0, Kj⟩ := cj
          dsimp only at XJ HMP hys
          subst hys
          have p0 : wr.cell? ⟨w.heap.size + 1 + 1, 0, none⟩ = some (.slice sc.A xs.length sc.cap) := cellB XJ.out.p 0 rfl
          have p1 : wr.cell? ⟨w.heap.size + 1 + 1, 1, none⟩ = some (.slice sf.A ys.length sf.cap) := cellB XJ.out.p 1 rfl
          have r0 : wr.cell? ⟨w.heap.size, 0, none⟩ = some (.slice none 0 0) := cellB XJ.out.r 0 rfl
          have r1 : wr.cell? ⟨w.heap.size, 1, none⟩ = some (.slice none 0 0) := cellB XJ.out.r 1 rfl
          have f0 := frozenB XJ.out.r 0
          have f1 := frozenB XJ.out.r 1
          go_wp2_with fail
          have hb2 := blk_set (blk_set XJ.out.r 0 (.slice sc.A xs.length sc.cap)) 1 (.slice sf.A ys.length sf.cap)
          have k1 : TKeep [27] wr (wr.setCell ⟨w.heap.size, 0, none⟩ (.slice sc.A xs.length sc.cap)) := TKeep.set XJ.out.r (by simp)
          have k2 : TKeep [27] wr ((wr.setCell ⟨w.heap.size, 0, none⟩ (.slice sc.A xs.length sc.cap)).setCell ⟨w.heap.size, 1, none⟩ (.slice sf.A ys.length sf.cap)) := k1.trans (TKeep.set (blk_set XJ.out.r 0 (.slice sc.A xs.length sc.cap)) (by simp))
          refine bodyPost_ret (v := .agg #[.slice sc.A xs.length sc.cap, .slice sf.A ys.length sf.cap]) (results_prg2 rfl rfl hb2 (by simp [Value.oneCell'])) rfl ?_
          refine ⟨_, _, rfl, ?_, (XJ.out.u.setCell (Nat.le_refl _) _).setCell (Nat.le_refl _) _⟩
          rw [HMP.out]
          exact ⟨xs, ys, sc, sf, rfl, rfl, rfl, rfl, k2.rd (by simp) (RdB.of_own XJ.out.oc), k2.rd (by simp) (RdB.of_own XJ.out.of), fun x hx => (XJ.out.cok x hx).keep (fun _ _ => k2.rd (by simp)) (k2.rd (by simp)), fun y hy => (XJ.out.fok y hy).keep (fun _ _ => k2.rd (by simp)) (fun _ => k2.rd (by simp))⟩
end Go.Proofs.YtdkcdodkhghfhaaGreatDoor
