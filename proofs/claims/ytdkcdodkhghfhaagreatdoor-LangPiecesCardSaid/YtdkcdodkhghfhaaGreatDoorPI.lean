import Derived.Test.YtdkcdodkhghfhaaGreatDoorMD
import Derived.Test.YtdkcdodkhghfhaaGreatDoorQ6
import Derived.Test.YtdkcdodkhghfhaaGreatDoorRT
import Derived.Test.YtdkcdodkhghfhaaGreatDoorSN
import Derived.Test.YtdkcdodkhghfhaaGreatDoorLW2
/- The walk of LangPieces. -/
namespace Go.Proofs.YtdkcdodkhghfhaaGreatDoor
open Go.RowKit Go.Proofs.YtdkcdodkhghfhaaGreatDoorW.PrintLast Go.Proofs.YtdkcdodkhghfhaaGreatDoorW.PrintWords

theorem NumsIn.up {L : List Int} {A : Option Addr} {w w' : World} (h : NumsIn L A w.heap.size w) (hb : Below w.heap.size w w') : NumsIn L A w'.heap.size w' := fun j z hz => by
  obtain ⟨a, h1, h2, h3⟩ := h.below hb j z hz
  exact ⟨a, h1, Nat.lt_of_lt_of_le h2 hb.size, h3⟩
theorem flat_at : ∀ (fs : List Fn) (m j : Nat) (hm : m < fs.length) (hj : j < fs[m].lines.length), (fs.flatMap (·.lines))[((fs.take m).flatMap (·.lines)).length + j]? = some (fs[m].lines[j])
  | f :: fs, 0, j, _, hj => by
    simp only [List.getElem_cons_zero] at hj
    simp only [List.take_zero, List.flatMap_nil, List.length_nil, Nat.zero_add, List.flatMap_cons, List.getElem_cons_zero]
    rw [List.getElem?_append_left hj, List.getElem?_eq_getElem hj]
  | f :: fs, m + 1, j, hm, hj => by
    simp only [List.getElem_cons_succ] at hj
    simp only [List.take_succ_cons, List.flatMap_cons, List.length_append, List.getElem_cons_succ]
    rw [Nat.add_assoc, List.getElem?_append_right (by omega), Nat.add_sub_cancel_left]
    exact flat_at fs m j (by simpa using hm) hj
theorem flat_next (fs : List Fn) (m : Nat) (hm : m < fs.length) : ((fs.take (m + 1)).flatMap (·.lines)).length = ((fs.take m).flatMap (·.lines)).length + fs[m].lines.length := by
  rw [List.take_succ_eq_append_getElem hm, List.flatMap_append, List.length_append, List.flatMap_cons, List.flatMap_nil, List.append_nil]
theorem madeP_print (L : List Int) : printS (madeP L) = rawText (madeP L) := if_pos ⟨(madeP_ok L).1, (madeP_ok L).2.1⟩
theorem prefix_calls (x : Str) (w : World) : Calls Tryz.prog 18 #[.string ⟨x.toArray⟩, .string ⟨#[102, 117, 110, 99, 32]⟩] w fun e w' => e = .returned (.bool (Lib.hasPrefix x pFunc)) ∧ w' = w := by
  have := Tryz.strings_HasPrefix ⟨x.toArray⟩ ⟨pFunc.toArray⟩ w
  simpa [pFunc] using this
set_option maxHeartbeats 8000000 in
set_option maxRecDepth 100000 in
theorem LangPieces_calls (L : List Int) (A : Option Addr) (cp : Nat) (w : World) (HW : LW w) (hA : NumsIn L A w.heap.size w) (hL : L.length ≤ 1000000000000000000) :
    Calls Tryz.prog 3 #[.slice A L.length cp] w fun e w' => e = .returned (.bool true) ∧ Below w.heap.size w w' := by
  have HL := Lib.hid HW
  have HA := Lib.hid hA
  clear HW hA
  go_enter Tryz.func3, Tryz.ntmps3
  go_wp2_with fail
  refine (sanity_calls w HL.out).mono ?_
  rintro e w1 ⟨rfl, hb⟩
  have B1 := Lib.hid hb
  have L1 := Lib.hid (HL.out.below hb)
  have A1 := Lib.hid (HA.out.up hb)
  clear hb HL HA
  go_wp2_with fail
  refine (Made_calls L A cp w1 A1.out hL).mono ?_
  rintro e w2 ⟨vc, vf, rfl, hP, hb⟩
  have B2 := Lib.hid (B1.out.trans (hb.mono B1.out.size))
  have L2 := Lib.hid (L1.out.below hb)
  obtain ⟨hok, hraw, hsm⟩ := madeP_ok L
  have hpr := madeP_print L
  have P2 := Lib.hid hP
  obtain ⟨xs, ys, sc, sf, rfl, rfl, hx, hy, _⟩ := hP
  have hcl : xs.length = (madeP L).classes.length := by rw [← hx, List.length_map]
  have hfl : ys.length = (madeP L).funcs.length := by rw [← hy, List.length_map]
  have LX := Lib.hid hcl
  have LY := Lib.hid hfl
  have OK := Lib.hid hok
  have SM := Lib.hid hsm
  have RAW := Lib.hid hraw
  clear hb hok hsm B1 L1 A1 hx hy hcl hfl
  generalize madeP L = p at *
  unfold Sl.v at P2 ⊢
  go_wp2_with fail
  have ha : Below w2.heap.size w2 (w2.alloc (.cells #[.slice sc.A xs.length sc.cap, .slice sf.A ys.length sf.cap] 27)) := (Below.refl _ _).alloc (Nat.le_refl _) _
  refine (Print_calls p _ _ _ (L2.out.alloc _) (P2.out.below ha) SM.out (by omega)).mono ?_
  rw [hpr]
  rintro e w3 ⟨rfl, hb⟩
  have L3 := Lib.hid ((L2.out.alloc (.cells #[.slice sc.A xs.length sc.cap, .slice sf.A ys.length sf.cap] 27)).below hb)
  have P3 := Lib.hid ((P2.out.below ha).below hb)
  have B3 := Lib.hid (B2.out.trans ((ha.trans (hb.mono ha.size)).mono B2.out.size))
  have K3 := Lib.hid ((hb.block _ (by simp)).trans (heap_new w2 (.cells #[.slice sc.A xs.length sc.cap, .slice sf.A ys.length sf.cap] 27)))
  clear hb ha B2 L2 P2
  go_wp2_with fail
  refine (Parse_is _ _ _ _ (parse_print OK.out RAW.out) _ L3.out (by have := RAW.out; omega)).mono ?_
  rintro e w4 ⟨hb, vc2, vf2, rfl, hP⟩
  have L4 := Lib.hid (L3.out.below hb)
  have B4 := Lib.hid (B3.out.trans (hb.mono B3.out.size))
  have K4 := Lib.hid ((hb.block _ (sizeB K3.out)).trans K3.out)
  obtain ⟨xs2, ys2, ⟨cA2, cc2⟩, ⟨fA2, fc2⟩, rfl, rfl, hx2, hy2, _, hf2, _, hok2⟩ := hP
  have hcl : xs2.length = p.classes.length := by rw [← hx2, List.length_map]
  have hfl : ys2.length = p.funcs.length := by rw [← hy2, List.length_map]
  rw [LX.out, LY.out, ← hcl, ← hfl] at K4
  have F4 := Lib.hid hf2
  have O4 := Lib.hid hok2
  have HY := Lib.hid hy2
  have k0 := cellB K4.out 0 rfl
  have k1 := cellB K4.out 1 rfl
  have k2 := sizeB K4.out
  have k3 : ¬ w2.heap.size = w4.heap.size := by omega
  clear hb hf2 hok2 hx2 hy2 L3 B3 K3 P3 LX LY hcl hfl
  unfold Sl.v
  go_wp2_with fail
  refine (split_calls 10 (rawText p) _ (L4.out.alloc _) (by have := RAW.out; omega)).mono ?_
  rw [split_raw OK.out]
  have hls : ∀ x ∈ prgLines p ++ [[]], x.length ≤ 8000 := fun x hx => Nat.le_trans (splitS_mem_length 10 (rawText p) x (by rw [split_raw OK.out]; exact hx)) RAW.out
  have hll : (prgLines p ++ [[]]).length ≤ 8001 := by
    rw [← split_raw OK.out, splitS_length]
    have := List.count_le_length (a := (10 : UInt8)) (l := rawText p)
    have := RAW.out
    omega
  have hp24 : p.funcs.length ≤ 24 := by
    have h := OK.out
    unfold prgOk at h
    simp only [Bool.and_eq_true, decide_eq_true_eq] at h
    exact h.1.1.2
  have HARG : Hid (∀ l ∈ p.funcs.flatMap (·.lines), l.args.length ≤ 8) := Lib.hid (fun l hl => by
    obtain ⟨f, hf, hl⟩ := List.mem_flatMap.1 hl
    have h := OK.out
    unfold prgOk at h
    simp only [Bool.and_eq_true] at h
    have h := List.all_eq_true.1 h.2 f hf
    unfold fnOk at h
    simp only [Bool.and_eq_true] at h
    exact lineT_args (of_decide_eq_true (List.all_eq_true.1 h.2 l hl)))
  have SCAN := Lib.hid (scan_prg (Q := fun l => Small l ∧ (Lit.int IntKind.i64 l.op).wf = true) OK.out SM.out)
  have HLS := Lib.hid hls
  clear hls
  rintro e w5 ⟨rfl, hw5⟩
  have ha1 : Below w4.heap.size w4 (w4.alloc (.cells #[.slice cA2 xs2.length cc2, .slice fA2 ys2.length fc2] 27)) := (Below.refl _ _).alloc (Nat.le_refl _) _
  have ha2 : Below (w4.heap.size + 1) (w4.alloc (.cells #[.slice cA2 xs2.length cc2, .slice fA2 ys2.length fc2] 27)) w5 := by rw [hw5]; exact (Below.refl _ _).alloc (by simp) _
  have hb : Below w4.heap.size w4 w5 := ha1.trans (ha2.mono (by omega))
  have R5 := Lib.hid (show w5.heap[w4.heap.size + 1]? = some (.cells (strs (prgLines p ++ [[]])).toArray 9 (0, 0)) by rw [hw5]; exact heap_new' _ _ _ (by simp))
  have K5 := Lib.hid ((ha2.block _ (by omega)).trans (heap_new w4 (.cells #[.slice cA2 xs2.length cc2, .slice fA2 ys2.length fc2] 27)))
  have L5 := Lib.hid (L4.out.below hb)
  have B5 := Lib.hid (B4.out.trans (hb.mono B4.out.size))
  have F5 := Lib.hid (F4.out.below hb)
  have O5 : Hid (∀ y ∈ ys2, FnOk w5 y) := Lib.hid (fun y hy => (O4.out y hy).keep (fun _ _ h => h.below hb) (fun _ h => h.below hb))
  have hz4 : (w4.alloc (.cells #[.slice cA2 xs2.length cc2, .slice fA2 ys2.length fc2] 27)).heap.size = w4.heap.size + 1 := by simp
  rw [hz4]
  have z5 : w4.heap.size + 1 < w5.heap.size := sizeB R5.out
  clear hb ha1 ha2 hw5 hz4 L4 B4 K4 F4 O4 k0 k1 k2 k3 OK SM RAW
  generalize prgLines p ++ [[]] = ls at *
  obtain ⟨i40, hi40, hz40, hs40, hb40⟩ := info_parts info40
  go_wp2_with fail
  go_loopw [9, 10, 54] (fun fd ins i wr => ∃ (k : Nat) (zs : List LnX) (A' : Option Addr) (cp' : Nat), k ≤ ls.length ∧ zs.length ≤ k ∧ i = .int .i64 k ∧ ins = .bool (scan (false, []) (ls.take k)).1 ∧ fd = .slice A' zs.length cp' ∧ zs.map (·.1) = (scan (false, []) (ls.take k)).2 ∧ wr.ownsRow w5.heap.size 40 9 (.slice A' zs.length cp') zs.length (lCells zs) ∧ (∀ z ∈ zs, LnOk wr z) ∧ Below w5.heap.size w5 wr) (fun _ _ i _ => ls.length - (intOf i).toNat)
  case atStart => exact ⟨0, [], none, 0, Nat.zero_le _, Nat.zero_le _, rfl, rfl, rfl, rfl, own_nil _ _ _ _, by simp, Below.refl _ _⟩
  case round =>
    obtain ⟨k, zs, A2, cp2, hk, hzk, rfl, rfl, rfl, hzs, hO, hZ, hb⟩ := hrel
    have OK2 := Lib.hid hO
    have ZK := Lib.hid hZ
    have BK := Lib.hid hb
    have ZS := Lib.hid hzs
    clear hO hZ hb hzs
    by_cases hlt : k < ls.length
    · have hx : wr.cell? ⟨w4.heap.size + 1, k, none⟩ = some (.string ⟨(ls[k]).toArray⟩) := cellB ((BK.out.block _ z5).trans R5.out) k (by have h := strs_at ls k hlt; simpa using h)
      have HN := Lib.hid (scan_next (false, []) ls k hlt)
      have HO := Lib.hid (scansOk_at ls _ k hlt SCAN.out.2)
      have hxl := HLS.out _ (List.getElem_mem hlt)
      generalize scan (false, []) (ls.take k) = st at *
      obtain ⟨ins, fd⟩ := st
      generalize ls[k] = x at *
      dsimp only at HN HO ZS ⊢
      go_wp2_with fail
      refine (prefix_calls x wr).mono ?_
      rintro e w' ⟨rfl, hww⟩
      have hww := hww.symm
      subst hww
      by_cases hp : Lib.hasPrefix x pFunc = true
      · have hs1 : scan1 (ins, fd) x = (true, fd) := by unfold scan1; rw [if_pos hp]
        have HS := Lib.hid hs1
        rw [hp]
        clear hs1
        go_wp2_with fail
        refine ⟨⟨k + 1, zs, A2, cp2, hlt, by omega, rfl, ?_, rfl, ?_, OK2.out, ZK.out, BK.out⟩, by simp [intOf]; omega⟩
        · rw [HN.out, HS.out]
        · rw [HN.out, HS.out]; exact ZS.out
      · have hpf : Lib.hasPrefix x pFunc = false := by simpa using hp
        rw [hpf]
        by_cases he : x = [101, 110, 100, 102, 117, 110, 99]
        · have HS := Lib.hid (show scan1 (ins, fd) x = (false, fd) by unfold scan1; rw [if_neg hp, if_pos (show x = wEnd from he)])
          subst he
          clear hp hpf
          go_wp2_with fail
          refine ⟨⟨k + 1, zs, A2, cp2, hlt, by omega, rfl, ?_, rfl, ?_, OK2.out, ZK.out, BK.out⟩, by simp [intOf]; omega⟩
          · rw [HN.out, HS.out]
          · rw [HN.out, HS.out]; exact ZS.out
        · have hbe : (x == [101, 110, 100, 102, 117, 110, 99]) = false := by simpa using he
          cases ins with
          | false =>
            have HS := Lib.hid (show scan1 (false, fd) x = (false, fd) by unfold scan1; rw [if_neg hp, if_neg (show ¬ x = wEnd from he), if_neg (by simp)])
            clear hp hpf
            go_wp2_with fail
            refine ⟨⟨k + 1, zs, A2, cp2, hlt, by omega, rfl, ?_, rfl, ?_, OK2.out, ZK.out, BK.out⟩, by simp [intOf]; omega⟩
            · rw [HN.out, HS.out]
            · rw [HN.out, HS.out]; exact ZS.out
          | true =>
            obtain ⟨l, h1, h2, h3, h4, h5⟩ := HO.out hpf he rfl
            have HS := Lib.hid (show scan1 (true, fd) x = (true, fd ++ [l]) by unfold scan1; rw [if_neg hp, if_neg (show ¬ x = wEnd from he), if_pos rfl, h1]; rfl)
            have HSM := Lib.hid h4
            have HOP := Lib.hid h5
            have HLT := Lib.hid h2
            clear hp hpf h4 h5
            go_wp2_with fail
            refine (ReadLine_calls x wr (L5.out.below BK.out) (by omega)).mono ?_
            rintro e w6 ⟨hb6, r, l', lA, lcp, hRL, hl', rfl, hO6⟩
            have hr : r = some l := by rw [hRL.eq, h1]; simp [lineT_args h3]
            subst hr
            have hl2 : l' = l := hl'
            subst hl2
            have B6 := Lib.hid (BK.out.trans (hb6.mono BK.out.size))
            have O6 := Lib.hid ((TKeep.below (T := []) hb6).own (by simp) OK2.out)
            have Z6 : Hid (∀ z ∈ zs, LnOk w6 z) := Lib.hid (fun z hz => (ZK.out z hz).keep (fun _ _ h => h.below hb6))
            have A6 := Lib.hid (RdB.of_own hO6)
            clear hb6 hO6 hRL hl' h1 h2 h3 HO BK OK2 ZK
            go_wp2_with fail
            have ha : Below w6.heap.size w6 (w6.alloc (.cells #[.int .i64 l'.op, .string ⟨l'.a.toArray⟩, .string ⟨l'.b.toArray⟩, .string ⟨l'.c.toArray⟩, .string ⟨l'.nm.toArray⟩, .slice lA l'.args.length lcp, .int .i64 l'.cv.k, .int .i64 l'.cv.n, .string ⟨l'.cv.s.toArray⟩] 40)) := (Below.refl _ _).alloc (Nat.le_refl _) _
            refine (Line_calls l' lA lcp _ ((L5.out.below B6.out).alloc _) (A6.out.below ha) HSM.out HOP.out).mono ?_
            rw [HLT.out]
            rintro e w7 ⟨rfl, hb7⟩
            have hb := ha.trans (hb7.mono ha.size)
            have B7 := Lib.hid (B6.out.trans (hb.mono B6.out.size))
            have O7 := Lib.hid ((TKeep.below (T := []) hb).own (by simp) O6.out)
            have Z7 : Hid (∀ z ∈ zs, LnOk w7 z) := Lib.hid (fun z hz => (Z6.out z hz).keep (fun _ _ h => h.below hb))
            have A7 := Lib.hid (A6.out.below hb)
            have K7 := Lib.hid ((hb7.block _ (by simp)).trans (heap_new w6 (.cells #[.int .i64 l'.op, .string ⟨l'.a.toArray⟩, .string ⟨l'.b.toArray⟩, .string ⟨l'.c.toArray⟩, .string ⟨l'.nm.toArray⟩, .slice lA l'.args.length lcp, .int .i64 l'.cv.k, .int .i64 l'.cv.n, .string ⟨l'.cv.s.toArray⟩] 40)))
            have c0 := cellB K7.out 0 rfl
            have c1 := cellB K7.out 1 rfl
            have c2 := cellB K7.out 2 rfl
            have c3 := cellB K7.out 3 rfl
            have c4 := cellB K7.out 4 rfl
            have c5 := cellB K7.out 5 rfl
            have c6 := cellB K7.out 6 rfl
            have c7 := cellB K7.out 7 rfl
            have c8 := cellB K7.out 8 rfl
            have hrd : RdB (w7.alloc (.cells #[.int .i64 l'.op, .string ⟨l'.a.toArray⟩, .string ⟨l'.b.toArray⟩, .string ⟨l'.c.toArray⟩, .string ⟨l'.nm.toArray⟩, .slice lA l'.args.length lcp, .int .i64 l'.cv.k, .int .i64 l'.cv.n, .string ⟨l'.cv.s.toArray⟩] 40)) 40 (some ⟨w7.heap.size, 0, none⟩) [.int .i64 l'.op, .string ⟨l'.a.toArray⟩, .string ⟨l'.b.toArray⟩, .string ⟨l'.c.toArray⟩, .string ⟨l'.nm.toArray⟩, .slice lA l'.args.length lcp, .int .i64 l'.cv.k, .int .i64 l'.cv.n, .string ⟨l'.cv.s.toArray⟩] := .inr ⟨_, 0, _, rfl, heap_new _ _, fun j u h => by rw [Nat.zero_add, ← Array.getElem?_toList]; exact h⟩
            have HRD := Lib.hid hrd
            clear hrd hb hb7 ha B6 O6 Z6 A6
            go_wp2_with (at_builtin; refine wpList_append_rd _ rfl (.tmp 79) (.tmp 81) _ rfl w5.heap.size 40 40 i40 _ 9 128 Tryz.underlying33 hi40 hz40 hs40 hb40 rfl (by omega) _ zs.length _ rfl (O7.out.alloc _) (some ⟨w7.heap.size, 0, none⟩) 1 1 _ rfl HRD.out rfl ?c1 (by unfold maxLen; omega) (by omega) (by have := B7.out.size; simp; omega) ?_)
            case c1 => simp [Value.oneCell']
            intro v' W8 hown hgrow _
            obtain ⟨g9, cp9, rfl, hg9, hcp9, hlt9⟩ := own_slice hown (by omega)
            have k40 : TKeep [40] w7 W8 := (TKeep.alloc [40] w7 (.cells #[.int .i64 l'.op, .string ⟨l'.a.toArray⟩, .string ⟨l'.b.toArray⟩, .string ⟨l'.c.toArray⟩, .string ⟨l'.nm.toArray⟩, .slice lA l'.args.length lcp, .int .i64 l'.cv.k, .int .i64 l'.cv.n, .string ⟨l'.cv.s.toArray⟩] 40)).trans (TKeep.grown (T := [40]) (O7.out.alloc _) hgrow (by simp))
            have Z8 : Hid (∀ z ∈ zs ++ [(l', ⟨lA, lcp⟩)], LnOk W8 z) := Lib.hid (fun z hz => by
              have hz2 : LnOk w7 z := by
                rcases List.mem_append.1 hz with hz | hz
                · exact Z7.out z hz
                · rw [List.mem_singleton.1 hz]; exact A7.out
              exact hz2.keep (fun _ _ => k40.rd (by simp)))
            have B8 := Lib.hid ((B7.out.alloc B7.out.size _).grown hgrow (by have := B7.out.size; simp; omega) (fun k hk => own_base O7.out k hk))
            have O8 := Lib.hid hown
            clear hown hgrow k40 Z7 B7 O7 A7 HRD
            go_wp2_with fail
            refine ⟨⟨k + 1, zs ++ [(l', ⟨lA, lcp⟩)], some ⟨g9, 0, none⟩, cp9, hlt, by simp; omega, rfl, ?_, ?_, ?_, ?_, Z8.out, B8.out⟩, by simp [intOf]; omega⟩
            · rw [HN.out, HS.out]
            · simp
            · rw [HN.out, HS.out]
              simp [ZS.out]
            · have hc : lCells (zs ++ [(l', ⟨lA, lcp⟩)]) = lCells zs ++ [.int .i64 l'.op, .string ⟨l'.a.toArray⟩, .string ⟨l'.b.toArray⟩, .string ⟨l'.c.toArray⟩, .string ⟨l'.nm.toArray⟩, .slice lA l'.args.length lcp, .int .i64 l'.cv.k, .int .i64 l'.cv.n, .string ⟨l'.cv.s.toArray⟩] := by
                unfold lCells
                rw [List.flatMap_append]
                rfl
              rw [hc, List.length_append]
              exact O8.out
    · have hz : zs.map (·.1) = p.funcs.flatMap (·.lines) := by
        have h := ZS.out
        rw [List.take_of_length_le (by omega), SCAN.out.1] at h
        exact h
      have hzl : zs.length = ((p.funcs).flatMap (·.lines)).length := by rw [← hz, List.length_map]
      have hz8 : zs.length ≤ 8001 := by omega
      clear hzl
      have FD := Lib.hid (show FnOk wr (⟨[], [], zs.map (·.1)⟩, ⟨none, 0⟩, ⟨A2, cp2⟩) from ⟨.inl rfl, zs, rfl, RdB.of_own OK2.out, ZK.out⟩)
      have F6 := Lib.hid (F5.out.below (BK.out))
      have O6 : Hid (∀ y ∈ ys2, FnOk wr y) := Lib.hid (fun y hy => (O5.out y hy).keep (fun _ _ h => h.below BK.out) (fun _ h => h.below BK.out))
      have k1 : wr.cell? ⟨w4.heap.size, 1, none⟩ = some (.slice fA2 ys2.length fc2) := cellB ((BK.out.block _ (by omega)).trans K5.out) 1 rfl
      have BW := Lib.hid (B5.out.trans (BK.out.mono B5.out.size))
      have HZ := Lib.hid hz
      have hyl : ys2.length = p.funcs.length := by rw [← HY.out, List.length_map]
      have hy24 : ys2.length ≤ 1000 := by omega
      have HYL := Lib.hid hyl
      clear hyl
      clear hz ZS SCAN OK2 ZK
      obtain ⟨wF, hwF⟩ : ∃ wF, wF = wr := ⟨_, rfl⟩
      subst hwF
      go_wp2_with fail
      go_loopw [15, 87] (fun kk i wv => ∃ m : Nat, m ≤ ys2.length ∧ i = .int .i64 m ∧ kk = .int .i64 (((p.funcs.take m).flatMap (·.lines)).length : Nat) ∧ Below wF.heap.size wF wv) (fun _ i _ => ys2.length - (intOf i).toNat)
      case atStart => exact ⟨0, Nat.zero_le _, rfl, rfl, Below.refl _ _⟩
      case round =>
        obtain ⟨m, hm, rfl, rfl, hb⟩ := hrel
        have BM := Lib.hid hb
        clear hb
        by_cases hml : m < ys2.length
        · obtain ⟨g, off, hA, hcell⟩ := rd3 fCells1 (fun _ => rfl) (F6.out.below BM.out) hml
          have hpm : m < p.funcs.length := by have := HYL.out; omega
          have hfe : p.funcs[m] = (ys2[m]).1 := by
            have h : p.funcs[m]? = some (ys2[m]).1 := by rw [← HY.out, List.getElem?_map, List.getElem?_eq_getElem hml]; rfl
            rw [List.getElem?_eq_getElem hpm] at h
            exact Option.some.inj h
          have HNX := Lib.hid (flat_next p.funcs m hpm)
          have HAT := Lib.hid (fun j => flat_at p.funcs m j hpm)
          rw [hfe] at HNX HAT
          have HFX := Lib.hid (O6.out _ (List.getElem_mem hml))
          clear hfe
          generalize ys2[m] = x at *
          obtain ⟨c, ⟨pA, pc⟩, ⟨mA, mc⟩⟩ := x
          dsimp only at HNX HAT
          have e0 : wr.cell? ⟨g, off + m * 3, none⟩ = some (.string ⟨c.nm.toArray⟩) := hcell 0 _ rfl
          have e1 : wr.cell? ⟨g, off + m * 3 + 1, none⟩ = some (.slice pA c.params.length pc) := hcell 1 _ rfl
          have e2 : wr.cell? ⟨g, off + m * 3 + 2, none⟩ = some (.slice mA c.lines.length mc) := hcell 2 _ rfl
          subst hA
          clear hcell
          go_wp2_with fail
          have BN := Lib.hid (BM.out.alloc BM.out.size (.cells #[.string ⟨c.nm.toArray⟩, .slice pA c.params.length pc, .slice mA c.lines.length mc] 45))
          go_loopw [15, 94] (fun kk i wv => ∃ j : Nat, j ≤ c.lines.length ∧ i = .int .i64 j ∧ kk = .int .i64 (((p.funcs.take m).flatMap (·.lines)).length + j : Nat) ∧ Below wF.heap.size wF wv) (fun _ i _ => c.lines.length - (intOf i).toNat)
          case atStart => exact ⟨0, Nat.zero_le _, rfl, by simp, BN.out⟩
          case round =>
            obtain ⟨j, hj, rfl, rfl, hb⟩ := hrel
            have BJ := Lib.hid hb
            clear hb BN
            by_cases hjl : j < c.lines.length
            · obtain ⟨g2, off2, a2, cq2, hA2, hrd2, hcell⟩ := rd9 ⟨HFX.out.1, HFX.out.2⟩ BJ.out hjl
              have hat := HAT.out j hjl
              have hl8 := HARG.out _ (List.mem_of_getElem? hat)
              rw [← HZ.out] at hat
              have hN : ((p.funcs.take m).flatMap (·.lines)).length + j < (zs.map (·.1)).length := (List.getElem?_eq_some_iff.1 hat).1
              have hN2 : ((p.funcs.take m).flatMap (·.lines)).length + j < zs.length := by simpa using hN
              have hge := (List.getElem?_eq_some_iff.1 hat).2
              obtain ⟨g3, off3, a3, cq3, hA3, hrd3, hcell3⟩ := rd9 FD.out BJ.out hN
              dsimp only at hrd3 hcell3
              rw [hge] at hrd3 hcell3
              generalize c.lines[j] = l at *
              generalize hNN : ((p.funcs.take m).flatMap (·.lines)).length = N at *
              have HNN := Lib.hid hNN
              obtain ⟨m0, m1, m2, m3, m4, m5, m6, m7, m8⟩ := hcell
              obtain ⟨n0, n1, n2, n3, n4, n5, n6, n7, n8⟩ := hcell3
              have RD2 := Lib.hid hrd2
              have RD3 := Lib.hid hrd3
              subst hA2
              subst hA3
              have hg3 : g3 < wr.heap.size := cell_lt n0
              have hg3' : ¬ g3 = wr.heap.size := by omega
              clear hrd2 hrd3 hat hge hNN hN
              go_wp2_with fail
              have hx1 : Below wr.heap.size wr (wr.alloc (.cells #[.int .i64 l.op, .string ⟨l.a.toArray⟩, .string ⟨l.b.toArray⟩, .string ⟨l.c.toArray⟩, .string ⟨l.nm.toArray⟩, .slice a2 l.args.length cq2, .int .i64 l.cv.k, .int .i64 l.cv.n, .string ⟨l.cv.s.toArray⟩] 40)) := (Below.refl _ _).alloc (Nat.le_refl _) _
              have hlen : l.args.length ≤ 1000000000000 := by omega
              have hge1 : ¬ ((zs.length : Int) ≤ ((N + j : Nat) : Int)) := by omega
              have hge2 : ¬ ((zs.length : Int) ≤ (N : Int) + (j : Int)) := by omega
              have hge3 : ¬ zs.length ≤ N + j := by omega
              have hi0 : 0 ≤ (N : Int) + (j : Int) := by omega
              have hi1 : (N : Int) + (j : Int) < (zs.length : Int) := by omega
              have hi2 : ((N : Int) + (j : Int)).toNat = N + j := by omega
              have KX := Lib.hid (heap_new wr (.cells #[.int .i64 l.op, .string ⟨l.a.toArray⟩, .string ⟨l.b.toArray⟩, .string ⟨l.c.toArray⟩, .string ⟨l.nm.toArray⟩, .slice a2 l.args.length cq2, .int .i64 l.cv.k, .int .i64 l.cv.n, .string ⟨l.cv.s.toArray⟩] 40))
              have y0 : (wr.alloc (.cells #[.int .i64 l.op, .string ⟨l.a.toArray⟩, .string ⟨l.b.toArray⟩, .string ⟨l.c.toArray⟩, .string ⟨l.nm.toArray⟩, .slice a2 l.args.length cq2, .int .i64 l.cv.k, .int .i64 l.cv.n, .string ⟨l.cv.s.toArray⟩] 40)).drew.cell? ⟨wr.heap.size, 0, none⟩ = some (.int .i64 l.op) := cellB KX.out 0 rfl
              have y1 : (wr.alloc (.cells #[.int .i64 l.op, .string ⟨l.a.toArray⟩, .string ⟨l.b.toArray⟩, .string ⟨l.c.toArray⟩, .string ⟨l.nm.toArray⟩, .slice a2 l.args.length cq2, .int .i64 l.cv.k, .int .i64 l.cv.n, .string ⟨l.cv.s.toArray⟩] 40)).drew.cell? ⟨wr.heap.size, 1, none⟩ = some (.string ⟨l.a.toArray⟩) := cellB KX.out 1 rfl
              have y2 : (wr.alloc (.cells #[.int .i64 l.op, .string ⟨l.a.toArray⟩, .string ⟨l.b.toArray⟩, .string ⟨l.c.toArray⟩, .string ⟨l.nm.toArray⟩, .slice a2 l.args.length cq2, .int .i64 l.cv.k, .int .i64 l.cv.n, .string ⟨l.cv.s.toArray⟩] 40)).drew.cell? ⟨wr.heap.size, 2, none⟩ = some (.string ⟨l.b.toArray⟩) := cellB KX.out 2 rfl
              have y3 : (wr.alloc (.cells #[.int .i64 l.op, .string ⟨l.a.toArray⟩, .string ⟨l.b.toArray⟩, .string ⟨l.c.toArray⟩, .string ⟨l.nm.toArray⟩, .slice a2 l.args.length cq2, .int .i64 l.cv.k, .int .i64 l.cv.n, .string ⟨l.cv.s.toArray⟩] 40)).drew.cell? ⟨wr.heap.size, 3, none⟩ = some (.string ⟨l.c.toArray⟩) := cellB KX.out 3 rfl
              have y4 : (wr.alloc (.cells #[.int .i64 l.op, .string ⟨l.a.toArray⟩, .string ⟨l.b.toArray⟩, .string ⟨l.c.toArray⟩, .string ⟨l.nm.toArray⟩, .slice a2 l.args.length cq2, .int .i64 l.cv.k, .int .i64 l.cv.n, .string ⟨l.cv.s.toArray⟩] 40)).drew.cell? ⟨wr.heap.size, 4, none⟩ = some (.string ⟨l.nm.toArray⟩) := cellB KX.out 4 rfl
              have y5 : (wr.alloc (.cells #[.int .i64 l.op, .string ⟨l.a.toArray⟩, .string ⟨l.b.toArray⟩, .string ⟨l.c.toArray⟩, .string ⟨l.nm.toArray⟩, .slice a2 l.args.length cq2, .int .i64 l.cv.k, .int .i64 l.cv.n, .string ⟨l.cv.s.toArray⟩] 40)).drew.cell? ⟨wr.heap.size, 5, none⟩ = some (.slice a2 l.args.length cq2) := cellB KX.out 5 rfl
              have y6 : (wr.alloc (.cells #[.int .i64 l.op, .string ⟨l.a.toArray⟩, .string ⟨l.b.toArray⟩, .string ⟨l.c.toArray⟩, .string ⟨l.nm.toArray⟩, .slice a2 l.args.length cq2, .int .i64 l.cv.k, .int .i64 l.cv.n, .string ⟨l.cv.s.toArray⟩] 40)).drew.cell? ⟨wr.heap.size, 6, none⟩ = some (.int .i64 l.cv.k) := cellB KX.out 6 rfl
              have y7 : (wr.alloc (.cells #[.int .i64 l.op, .string ⟨l.a.toArray⟩, .string ⟨l.b.toArray⟩, .string ⟨l.c.toArray⟩, .string ⟨l.nm.toArray⟩, .slice a2 l.args.length cq2, .int .i64 l.cv.k, .int .i64 l.cv.n, .string ⟨l.cv.s.toArray⟩] 40)).drew.cell? ⟨wr.heap.size, 7, none⟩ = some (.int .i64 l.cv.n) := cellB KX.out 7 rfl
              have y8 : (wr.alloc (.cells #[.int .i64 l.op, .string ⟨l.a.toArray⟩, .string ⟨l.b.toArray⟩, .string ⟨l.c.toArray⟩, .string ⟨l.nm.toArray⟩, .slice a2 l.args.length cq2, .int .i64 l.cv.k, .int .i64 l.cv.n, .string ⟨l.cv.s.toArray⟩] 40)).drew.cell? ⟨wr.heap.size, 8, none⟩ = some (.string ⟨l.cv.s.toArray⟩) := cellB KX.out 8 rfl
              have x0 : (wr.alloc (.cells #[.int .i64 l.op, .string ⟨l.a.toArray⟩, .string ⟨l.b.toArray⟩, .string ⟨l.c.toArray⟩, .string ⟨l.nm.toArray⟩, .slice a2 l.args.length cq2, .int .i64 l.cv.k, .int .i64 l.cv.n, .string ⟨l.cv.s.toArray⟩] 40)).drew.cell? ⟨g3, off3 + (N + j) * 9, none⟩ = some (.int .i64 l.op) := (hx1.cell hg3).trans n0
              have x1 : (wr.alloc (.cells #[.int .i64 l.op, .string ⟨l.a.toArray⟩, .string ⟨l.b.toArray⟩, .string ⟨l.c.toArray⟩, .string ⟨l.nm.toArray⟩, .slice a2 l.args.length cq2, .int .i64 l.cv.k, .int .i64 l.cv.n, .string ⟨l.cv.s.toArray⟩] 40)).drew.cell? ⟨g3, off3 + (N + j) * 9 + 1, none⟩ = some (.string ⟨l.a.toArray⟩) := (hx1.cell hg3).trans n1
              have x2 : (wr.alloc (.cells #[.int .i64 l.op, .string ⟨l.a.toArray⟩, .string ⟨l.b.toArray⟩, .string ⟨l.c.toArray⟩, .string ⟨l.nm.toArray⟩, .slice a2 l.args.length cq2, .int .i64 l.cv.k, .int .i64 l.cv.n, .string ⟨l.cv.s.toArray⟩] 40)).drew.cell? ⟨g3, off3 + (N + j) * 9 + 2, none⟩ = some (.string ⟨l.b.toArray⟩) := (hx1.cell hg3).trans n2
              have x3 : (wr.alloc (.cells #[.int .i64 l.op, .string ⟨l.a.toArray⟩, .string ⟨l.b.toArray⟩, .string ⟨l.c.toArray⟩, .string ⟨l.nm.toArray⟩, .slice a2 l.args.length cq2, .int .i64 l.cv.k, .int .i64 l.cv.n, .string ⟨l.cv.s.toArray⟩] 40)).drew.cell? ⟨g3, off3 + (N + j) * 9 + 3, none⟩ = some (.string ⟨l.c.toArray⟩) := (hx1.cell hg3).trans n3
              have x4 : (wr.alloc (.cells #[.int .i64 l.op, .string ⟨l.a.toArray⟩, .string ⟨l.b.toArray⟩, .string ⟨l.c.toArray⟩, .string ⟨l.nm.toArray⟩, .slice a2 l.args.length cq2, .int .i64 l.cv.k, .int .i64 l.cv.n, .string ⟨l.cv.s.toArray⟩] 40)).drew.cell? ⟨g3, off3 + (N + j) * 9 + 4, none⟩ = some (.string ⟨l.nm.toArray⟩) := (hx1.cell hg3).trans n4
              have x5 : (wr.alloc (.cells #[.int .i64 l.op, .string ⟨l.a.toArray⟩, .string ⟨l.b.toArray⟩, .string ⟨l.c.toArray⟩, .string ⟨l.nm.toArray⟩, .slice a2 l.args.length cq2, .int .i64 l.cv.k, .int .i64 l.cv.n, .string ⟨l.cv.s.toArray⟩] 40)).drew.cell? ⟨g3, off3 + (N + j) * 9 + 5, none⟩ = some (.slice a3 l.args.length cq3) := (hx1.cell hg3).trans n5
              have x6 : (wr.alloc (.cells #[.int .i64 l.op, .string ⟨l.a.toArray⟩, .string ⟨l.b.toArray⟩, .string ⟨l.c.toArray⟩, .string ⟨l.nm.toArray⟩, .slice a2 l.args.length cq2, .int .i64 l.cv.k, .int .i64 l.cv.n, .string ⟨l.cv.s.toArray⟩] 40)).drew.cell? ⟨g3, off3 + (N + j) * 9 + 6, none⟩ = some (.int .i64 l.cv.k) := (hx1.cell hg3).trans n6
              have x7 : (wr.alloc (.cells #[.int .i64 l.op, .string ⟨l.a.toArray⟩, .string ⟨l.b.toArray⟩, .string ⟨l.c.toArray⟩, .string ⟨l.nm.toArray⟩, .slice a2 l.args.length cq2, .int .i64 l.cv.k, .int .i64 l.cv.n, .string ⟨l.cv.s.toArray⟩] 40)).drew.cell? ⟨g3, off3 + (N + j) * 9 + 7, none⟩ = some (.int .i64 l.cv.n) := (hx1.cell hg3).trans n7
              have x8 : (wr.alloc (.cells #[.int .i64 l.op, .string ⟨l.a.toArray⟩, .string ⟨l.b.toArray⟩, .string ⟨l.c.toArray⟩, .string ⟨l.nm.toArray⟩, .slice a2 l.args.length cq2, .int .i64 l.cv.k, .int .i64 l.cv.n, .string ⟨l.cv.s.toArray⟩] 40)).drew.cell? ⟨g3, off3 + (N + j) * 9 + 8, none⟩ = some (.string ⟨l.cv.s.toArray⟩) := (hx1.cell hg3).trans n8
              have hxb : Below wr.heap.size wr (wr.alloc (.cells #[.int .i64 l.op, .string ⟨l.a.toArray⟩, .string ⟨l.b.toArray⟩, .string ⟨l.c.toArray⟩, .string ⟨l.nm.toArray⟩, .slice a2 l.args.length cq2, .int .i64 l.cv.k, .int .i64 l.cv.n, .string ⟨l.cv.s.toArray⟩] 40)).drew := hx1.trans ⟨rfl, rfl, rfl, Nat.le_refl _, fun _ _ => rfl⟩
              have HXB := Lib.hid hxb
              clear hxb hx1 m0 m1 m2 m3 m4 m5 m6 m7 m8 n0 n1 n2 n3 n4 n5 n6 n7 n8 KX
              refine start_ (n := 13) (S := fun w' => w'.cell? ⟨wr.heap.size, 0, none⟩ = some (.int .i64 l.op) ∧ w'.cell? ⟨wr.heap.size, 1, none⟩ = some (.string ⟨l.a.toArray⟩) ∧ w'.cell? ⟨wr.heap.size, 2, none⟩ = some (.string ⟨l.b.toArray⟩) ∧ w'.cell? ⟨wr.heap.size, 3, none⟩ = some (.string ⟨l.c.toArray⟩) ∧ w'.cell? ⟨wr.heap.size, 4, none⟩ = some (.string ⟨l.nm.toArray⟩) ∧ w'.cell? ⟨wr.heap.size, 5, none⟩ = some (.slice a2 l.args.length cq2) ∧ w'.cell? ⟨wr.heap.size, 6, none⟩ = some (.int .i64 l.cv.k) ∧ w'.cell? ⟨wr.heap.size, 7, none⟩ = some (.int .i64 l.cv.n) ∧ w'.cell? ⟨wr.heap.size, 8, none⟩ = some (.string ⟨l.cv.s.toArray⟩) ∧ w'.cell? ⟨g3, off3 + (N + j) * 9, none⟩ = some (.int .i64 l.op) ∧ w'.cell? ⟨g3, off3 + (N + j) * 9 + 1, none⟩ = some (.string ⟨l.a.toArray⟩) ∧ w'.cell? ⟨g3, off3 + (N + j) * 9 + 2, none⟩ = some (.string ⟨l.b.toArray⟩) ∧ w'.cell? ⟨g3, off3 + (N + j) * 9 + 3, none⟩ = some (.string ⟨l.c.toArray⟩) ∧ w'.cell? ⟨g3, off3 + (N + j) * 9 + 4, none⟩ = some (.string ⟨l.nm.toArray⟩) ∧ w'.cell? ⟨g3, off3 + (N + j) * 9 + 5, none⟩ = some (.slice a3 l.args.length cq3) ∧ w'.cell? ⟨g3, off3 + (N + j) * 9 + 6, none⟩ = some (.int .i64 l.cv.k) ∧ w'.cell? ⟨g3, off3 + (N + j) * 9 + 7, none⟩ = some (.int .i64 l.cv.n) ∧ w'.cell? ⟨g3, off3 + (N + j) * 9 + 8, none⟩ = some (.string ⟨l.cv.s.toArray⟩)) (ds := [12]) #[false, false, false, false, false, false, false, false, false, false, false, false, false] (by kernel_rfl) rfl rfl ⟨y0, y1, y2, y3, y4, y5, y6, y7, y8, x0, x1, x2, x3, x4, x5, x6, x7, x8⟩ (fun hHeld => ?_)
              generalize hW : (wr.alloc (.cells #[.int .i64 l.op, .string ⟨l.a.toArray⟩, .string ⟨l.b.toArray⟩, .string ⟨l.c.toArray⟩, .string ⟨l.nm.toArray⟩, .slice a2 l.args.length cq2, .int .i64 l.cv.k, .int .i64 l.cv.n, .string ⟨l.cv.s.toArray⟩] 40)).drew = W at y0 y1 y2 y3 y4 y5 y6 y7 y8 x0 x1 x2 x3 x4 x5 x6 x7 x8 HXB hHeld ⊢
              refine pure_ (i := 0) (N := some 98) (v := ?_) (a' := ?_) #[true, false, false, false, false, false, false, false, false, false, false, false, false] rfl rfl (by kernel_rfl) (fun _ _ _ h => h) (Or.inl ⟨by rfl, ?_⟩) ?_ ?_
              rotate_left
              · intro w'
                go_simp
                with_reducible rfl
              rotate_left
              · simp only [Act.put, List.setIfInBounds_toArray, List.set_cons_zero, List.set_cons_succ]
                rfl
              refine pure_ (i := 1) (N := some 99) (v := ?_) (a' := ?_) #[true, true, false, false, false, false, false, false, false, false, false, false, false] rfl rfl (by kernel_rfl) (fun _ _ _ h => h) (Or.inl ⟨by rfl, ?_⟩) ?_ ?_
              rotate_left
              · intro w'
                go_simp
                with_reducible rfl
              rotate_left
              · simp only [Act.put, List.setIfInBounds_toArray, List.set_cons_zero, List.set_cons_succ]
                rfl
              refine pure_ (i := 2) (N := some 100) (v := ?_) (a' := ?_) #[true, true, true, false, false, false, false, false, false, false, false, false, false] rfl rfl (by kernel_rfl) (fun _ _ _ h => h) (Or.inl ⟨by rfl, ?_⟩) ?_ ?_
              rotate_left
              · intro w'
                go_simp
                with_reducible rfl
              rotate_left
              · simp only [Act.put, List.setIfInBounds_toArray, List.set_cons_zero, List.set_cons_succ]
                rfl
              refine pure_ (i := 3) (N := some 101) (v := ?_) (a' := ?_) #[true, true, true, true, false, false, false, false, false, false, false, false, false] rfl rfl (by kernel_rfl) (fun _ _ _ h => h) (Or.inl ⟨by rfl, ?_⟩) ?_ ?_
              rotate_left
              · intro w'
                go_simp
                with_reducible rfl
              rotate_left
              · simp only [Act.put, List.setIfInBounds_toArray, List.set_cons_zero, List.set_cons_succ]
                rfl
              refine pure_ (i := 4) (N := some 102) (v := ?_) (a' := ?_) #[true, true, true, true, true, false, false, false, false, false, false, false, false] rfl rfl (by kernel_rfl) (fun _ _ _ h => h) (Or.inl ⟨by rfl, ?_⟩) ?_ ?_
              rotate_left
              · intro w'
                go_simp
                with_reducible rfl
              rotate_left
              · simp only [Act.put, List.setIfInBounds_toArray, List.set_cons_zero, List.set_cons_succ]
                rfl
              refine take_ (i := 5) (N := some 103) (v := ?_) (a' := ?_) #[true, true, true, true, true, true, false, false, false, false, false, false, false] rfl rfl (by kernel_rfl) (fun _ _ _ h => h) (Or.inl ⟨by rfl, ?_⟩) hHeld ?_ ?_
              rotate_left
              · rintro w' ⟨s0, s1, s2, s3, s4, s5, s6, s7, s8, s9, s10, s11, s12, s13, s14, s15, s16, s17⟩
                go_simp
                with_reducible rfl
              rotate_left
              · simp only [Act.put, List.setIfInBounds_toArray, List.set_cons_zero, List.set_cons_succ]
                rfl
              refine pure_ (i := 6) (N := some 104) (v := ?_) (a' := ?_) #[true, true, true, true, true, true, true, false, false, false, false, false, false] rfl rfl (by kernel_rfl) (fun _ _ _ h => h) (Or.inl ⟨by rfl, ?_⟩) ?_ ?_
              rotate_left
              · intro w'
                go_simp
                with_reducible rfl
              rotate_left
              · simp only [Act.put, List.setIfInBounds_toArray, List.set_cons_zero, List.set_cons_succ]
                rfl
              refine pure_ (i := 7) (N := some 105) (v := ?_) (a' := ?_) #[true, true, true, true, true, true, true, true, false, false, false, false, false] rfl rfl (by kernel_rfl) (fun _ _ _ h => h) (Or.inl ⟨by rfl, ?_⟩) ?_ ?_
              rotate_left
              · intro w'
                go_simp
                with_reducible rfl
              rotate_left
              · simp only [Act.put, List.setIfInBounds_toArray, List.set_cons_zero, List.set_cons_succ]
                rfl
              refine pure_ (i := 8) (N := some 106) (v := ?_) (a' := ?_) #[true, true, true, true, true, true, true, true, true, false, false, false, false] rfl rfl (by kernel_rfl) (fun _ _ _ h => h) (Or.inl ⟨by rfl, ?_⟩) ?_ ?_
              rotate_left
              · intro w'
                go_simp
                with_reducible rfl
              rotate_left
              · simp only [Act.put, List.setIfInBounds_toArray, List.set_cons_zero, List.set_cons_succ]
                rfl
              refine take_ (i := 9) (N := some 107) (v := ?_) (a' := ?_) #[true, true, true, true, true, true, true, true, true, true, false, false, false] rfl rfl (by kernel_rfl) (fun _ _ _ h => h) (Or.inl ⟨by rfl, ?_⟩) hHeld ?_ ?_
              rotate_left
              · rintro w' ⟨s0, s1, s2, s3, s4, s5, s6, s7, s8, s9, s10, s11, s12, s13, s14, s15, s16, s17⟩
                go_simp
                with_reducible rfl
              rotate_left
              · simp only [Act.put, List.setIfInBounds_toArray, List.set_cons_zero, List.set_cons_succ]
                rfl
              refine one_ (i := 10) (N := some 108) #[true, true, true, true, true, true, true, true, true, true, true, false, false] rfl rfl (by kernel_rfl) (by simp) (fun K hK => ?_)
              refine goes_ Tryz.func21 (by kernel_rfl) rfl #[.agg (l.cells (.slice a2 l.args.length cq2)), .agg (l.cells (.slice a3 l.args.length cq3))] rfl rfl rfl (by simp only [List.map_toArray, List.map_cons, List.map_nil]; rfl) ?_
              refine (sameLine_calls l l a2 a3 cq2 cq3 W (RD2.out.below HXB.out) (RD3.out.below HXB.out) hlen hlen).mono ?_
              rw [(sameL_iff l l).2 rfl]
              rintro e W3 ⟨rfl, hb3⟩
              have BX3 := Lib.hid (BJ.out.trans ((HXB.out.trans (hb3.mono HXB.out.size)).mono BJ.out.size))
              refine ⟨_, rfl, ?_⟩
              refine hK.out _ _ ⟨(hb3.cell (by exact cell_lt y0)).trans y0, (hb3.cell (by exact cell_lt y1)).trans y1, (hb3.cell (by exact cell_lt y2)).trans y2, (hb3.cell (by exact cell_lt y3)).trans y3, (hb3.cell (by exact cell_lt y4)).trans y4, (hb3.cell (by exact cell_lt y5)).trans y5, (hb3.cell (by exact cell_lt y6)).trans y6, (hb3.cell (by exact cell_lt y7)).trans y7, (hb3.cell (by exact cell_lt y8)).trans y8, (hb3.cell (by exact cell_lt x0)).trans x0, (hb3.cell (by exact cell_lt x1)).trans x1, (hb3.cell (by exact cell_lt x2)).trans x2, (hb3.cell (by exact cell_lt x3)).trans x3, (hb3.cell (by exact cell_lt x4)).trans x4, (hb3.cell (by exact cell_lt x5)).trans x5, (hb3.cell (by exact cell_lt x6)).trans x6, (hb3.cell (by exact cell_lt x7)).trans x7, (hb3.cell (by exact cell_lt x8)).trans x8⟩ (fun hHeld => ?_)
              refine pure_ (i := 11) (N := some 109) (v := ?_) (a' := ?_) #[true, true, true, true, true, true, true, true, true, true, true, true, false] rfl rfl (by kernel_rfl) (fun _ _ _ h => h) (Or.inl ⟨by rfl, ?_⟩) ?_ ?_
              rotate_left
              · intro w'
                go_simp
                with_reducible rfl
              rotate_left
              · simp only [Act.put, List.setIfInBounds_toArray, List.set_cons_zero, List.set_cons_succ]
                rfl
              refine pure_ (i := 12) (N := some 110) (v := ?_) (a' := ?_) #[true, true, true, true, true, true, true, true, true, true, true, true, true] rfl rfl (by kernel_rfl) (fun _ _ _ h => h) (Or.inl ⟨by rfl, ?_⟩) ?_ ?_
              rotate_left
              · intro w'
                go_simp
                with_reducible rfl
              rotate_left
              · simp only [Act.put, List.setIfInBounds_toArray, List.set_cons_zero, List.set_cons_succ]
                rfl
              refine done_ (by kernel_rfl) ?_
              go_wp2_with fail
              refine ⟨⟨j + 1, hjl, rfl, rfl, BX3.out⟩, by simp [intOf]; omega⟩
            · have hjc : j = c.lines.length := by omega
              subst hjc
              rw [← HNX.out]
              go_wp2_with fail
              refine ⟨⟨m + 1, hml, rfl, rfl, BJ.out⟩, by simp [intOf]; omega⟩
        · have hmy : m = ys2.length := by omega
          subst hmy
          have hfin : ((p.funcs.take ys2.length).flatMap (·.lines)).length = zs.length := by
            rw [List.take_of_length_le (by rw [HYL.out]; exact Nat.le_refl _), ← HZ.out, List.length_map]
          rw [hfin]
          clear hfin
          go_wp2_with fail
          go_ret
          exact ⟨rfl, BW.out.trans (BM.out.mono BW.out.size)⟩
end Go.Proofs.YtdkcdodkhghfhaaGreatDoor
/- LangPieces over the row's own argument. -/
namespace Go.Proofs.YtdkcdodkhghfhaaGreatDoor
open Go.RowKit

theorem row_cell' {w : World} {x : Addr} {n : Nat} {v : Value} (h : w.cell? (x.add n) = some v) : x.block < w.heap.size := by
  obtain ⟨ab, ao, spot⟩ := x
  have hs := World.cell?_spot h
  rcases Nat.lt_or_ge ab w.heap.size with h' | h'
  · exact h'
  · exfalso
    have hb : ((⟨ab, ao, spot⟩ : Addr).add n).block = ab := add_block' _ _
    unfold World.cell? at h
    rw [hb, Array.getElem?_eq_none h'] at h
    simp at h
theorem row_nums {a : Option Addr} {len cap : Nat} {z : List Int} {W : World} (h : IsRow .i64 W a len cap z) : (z.take len).length = len ∧ NumsIn (z.take len) a W.heap.size W := by
  rcases h with ⟨rfl, rfl, rfl, rfl⟩ | ⟨x, rfl, h1, h2, h3, h4, h5⟩
  · exact ⟨rfl, fun j z hz => by simp at hz⟩
  · have hlen : (z.take len).length = len := by rw [List.length_take]; omega
    refine ⟨hlen, fun j y hj => ?_⟩
    have hjl : j < z.length := by
      have := (List.getElem?_eq_some_iff.1 hj).1
      rw [hlen] at this; omega
    have hz : z.getD j 0 = y := by
      have hj' : j < len := by
        have := (List.getElem?_eq_some_iff.1 hj).1
        rwa [hlen] at this
      rw [List.getElem?_take_of_lt hj'] at hj
      simp [List.getD, hj]
    have hc := h4 j hjl
    rw [hz] at hc
    exact ⟨x, rfl, row_cell' hc, hc⟩
theorem LangPieces_row (a0 : Option Addr) (len0 cap0 : Nat) (z0 : List Int) (W : World) (L : LW W) (w0 : IsRow .i64 W a0 len0 cap0 z0) (y0 : len0 * 8 ≤ 140737488351232) :
    Calls Tryz.prog 3 #[.slice a0 len0 cap0] W fun e W' => e = .returned (.bool true) ∧ Below W.heap.size W W' := by
  obtain ⟨h1, h2⟩ := row_nums w0
  have := LangPieces_calls (z0.take len0) a0 cap0 W L h2 (by omega)
  rw [h1] at this
  exact this
end Go.Proofs.YtdkcdodkhghfhaaGreatDoor
