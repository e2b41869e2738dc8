/- The walk of LangNames. -/
import Derived.Test.YtdkcdodkhghfhaaGreatDoorR1
import Derived.Test.YtdkcdodkhghfhaaGreatDoorSN
import Derived.Laws.IdiomStrings
namespace Go.Proofs.YtdkcdodkhghfhaaGreatDoor
open Go.RowKit Go.Proofs.YtdkcdodkhghfhaaGreatDoorW.PrintLast Go.Proofs.YtdkcdodkhghfhaaGreatDoorW.PrintWords

theorem cat_byte (t : Str) (c : UInt8) : ((⟨t.toArray⟩ : ByteArray) ++ ⟨#[c]⟩) = ⟨(t ++ [c]).toArray⟩ := by
  apply ByteArray.ext; apply Array.toList_inj.1; simp
theorem run_byte_back (c : UInt8) (w : World) : Sem.run Tryz.prog (convert 64 9 (.slice (some ⟨w.heap.size, 0, none⟩) 1 1)) (w.alloc (.cells #[.int .u8 c.toNat] 5)) = .ok (.string ⟨#[c]⟩) (w.alloc (.cells #[.int .u8 c.toNat] 5)) := by
  refine run_convert_bytes_back (w.alloc (.cells #[.int .u8 c.toNat] 5)) 64 9 5 ⟨w.heap.size, 0, none⟩ 1 [c] Tryz.underlying64 Tryz.underlying5 Tryz.underlying9 ?_
  intro j hj
  have h0 : j = 0 := by simpa using hj
  subst h0
  exact cellB (heap_new w (.cells #[.int .u8 c.toNat] 5)) 0 rfl
theorem add_block (a : Addr) (n : Nat) : (a.add n).block = a.block := by unfold Addr.add; split <;> rfl
set_option maxHeartbeats 4000000 in
set_option maxRecDepth 100000 in
theorem LangNames_calls (raw : Str) (A : Option Addr) (zs : List Int) (cp : Nat) (w : World) (L : LW w) (hraw : raw.length ≤ 140737488351232) (hz : ∀ z ∈ zs, 0 ≤ z ∧ z < 256) (_hzl : zs.length ≤ 140737488351232)
    (hc : ∀ j z, zs[j]? = some z → ∃ a, A = some a ∧ a.block < w.heap.size ∧ w.cell? (a.add j) = some (.int .u8 z)) :
    Calls Tryz.prog 7 #[.string ⟨raw.toArray⟩, .slice A zs.length cp] w fun e w' => e = .returned (.bool true) ∧ Below w.heap.size w w' := by
  have HZ := Lib.hid hz
  have HC := Lib.hid hc
  have HL := Lib.hid L
  clear hz hc L
  go_enter Tryz.func7, Tryz.ntmps7
  go_wp2_with fail
  refine (sanity_calls w HL.out).mono ?_
  rintro e w1 ⟨rfl, hb1⟩
  have HB1 := Lib.hid hb1
  clear hb1
  go_wp2_with fail
  go_loopw [6, 7] (fun s i wr => ∃ (k : Nat) (t : Str), k ≤ zs.length ∧ k ≤ 14 ∧ i = .int .i64 k ∧ s = .string ⟨t.toArray⟩ ∧ t.length ≤ k ∧ Below w.heap.size w wr) (fun _ i _ => 14 - (intOf i).toNat)
  case atStart => exact ⟨0, [], Nat.zero_le _, by omega, rfl, rfl, by simp, HB1.out⟩
  case round =>
    obtain ⟨k, t, hk, hk14, rfl, rfl, ht, hb⟩ := hrel
    have HB := Lib.hid hb
    clear hb
    by_cases hlt : k < zs.length ∧ k < 14
    · obtain ⟨h1, h2⟩ := hlt
      obtain ⟨a, rfl, hab, hcell⟩ := HC.out k (zs[k]) (List.getElem?_eq_getElem h1)
      have hzz := HZ.out _ (List.getElem_mem h1)
      generalize zs[k] = z at *
      have hcell2 : wr.cell? (a.add k) = some (.int .u8 z) := (HB.out.cell (p := a.add k) (by rw [add_block]; exact hab)).trans hcell
      obtain ⟨z0, z1⟩ := hzz
      have hcv := fun c => run_byte_back c wr
      clear hab hcell
      go_wp2_with fail
      refine ⟨⟨k + 1, t ++ [_], by omega, by omega, rfl, congrArg Value.string (cat_byte t _), by simp; omega, HB.out.alloc HB.out.size _⟩, by simp [intOf]; omega⟩
    · have h12 : (k < zs.length ∧ (14 : Int) ≤ (k : Int)) ∨ zs.length ≤ k := by omega
      clear hlt
      obtain ⟨t1, ht1, hl1⟩ : ∃ t1 : Str, ((⟨t.toArray⟩ : ByteArray) ++ ⟨#[101]⟩) = ⟨t1.toArray⟩ ∧ t1.length ≤ 20 := ⟨t ++ [101], cat_byte t 101, by simp; omega⟩
      obtain ⟨t2, ht2, hl2⟩ : ∃ t2 : Str, ((⟨#[101, 110, 100]⟩ : ByteArray) ++ ⟨t.toArray⟩) = ⟨t2.toArray⟩ ∧ t2.length ≤ 20 := ⟨[101, 110, 100] ++ t, by apply ByteArray.ext; apply Array.toList_inj.1; simp, by simp; omega⟩
      have hlt4 : t.length ≤ 20 := by omega
      obtain ⟨i9, hi9, hz9, hs9, hb9⟩ := info_parts info9s
      rcases h12 with ⟨h1, h2⟩ | h1
      all_goals
        go_wp2_with fail
        refine (words_calls _).mono ?_
        rintro e w2 ⟨rfl, rfl⟩
        have hown := World.ownsRow_lit (base := wr.heap.size) (e := 9) (size := 1) wr (strs wordsS).toArray 35 (Nat.le_refl _) (by unfold maxLen; omega) rfl
        have HOW := Lib.hid hown
        have HB2 := Lib.hid (HB.out.alloc HB.out.size (.cells (strs wordsS).toArray 9))
        have hsz : wr.heap.size < (wr.alloc (.cells (strs wordsS).toArray 9)).heap.size := by simp
        clear hown
        generalize (wr.alloc (.cells (strs wordsS).toArray 9)) = V at *
        have hrd : RdB (V.alloc (.cells #[.string ⟨raw.toArray⟩, .string ⟨t.toArray⟩, .string ⟨t1.toArray⟩, .string ⟨t2.toArray⟩] 9)) 9 (some ⟨V.heap.size, 0, none⟩) (strs [raw, t, t1, t2]) :=
          .inr ⟨_, 0, _, rfl, heap_new _ _, fun j u h => by rw [Nat.zero_add, ← Array.getElem?_toList]; exact h⟩
        have HRD := Lib.hid hrd
        clear hrd
        go_wp2_with (at_builtin; refine wpList_append_rd _ rfl (.tmp 33) (.tmp 40) _ rfl wr.heap.size 9 9 i9 _ 1 16 Tryz.underlying34 hi9 hz9 hs9 hb9 rfl (by omega) _ 35 _ rfl (HOW.out.alloc _) (some ⟨V.heap.size, 0, none⟩) 4 4 (strs [raw, t, t1, t2]) rfl HRD.out rfl ?c1 (by unfold maxLen; omega) (by omega) (by simp; omega) ?_)
        case c1 => exact strs_one _
        intro v' W2 hown2 hgrow hat
        obtain ⟨g9, cp9, rfl, hg9, hcp9, hlt9⟩ := own_slice hown2 (by omega)
        have hrd2' : RdB W2 9 (some ⟨g9, 0, none⟩) (strs wordsS ++ strs [raw, t, t1, t2]) := RdB.of_own hown2
        have hrd2 : RdB W2 9 (some ⟨g9, 0, none⟩) (strs (wordsS ++ [raw, t, t1, t2])) := by
          unfold strs at hrd2' ⊢
          rw [List.map_append]
          exact hrd2'
        have hbW : Below w.heap.size w W2 := (HB2.out.alloc HB2.out.size _).grown hgrow (by have := HB2.out.size; simp; omega) (by intro k hk; simp [Value.ownBlock] at hk; have := HB.out.size; omega)
        have hln : ∀ x ∈ wordsS ++ [raw, t, t1, t2], x.length ≤ 140737488351232 := by
          intro x hx
          rcases List.mem_append.1 hx with h | h
          · have : wordsS.all (fun x => decide (x.length ≤ 140737488351232)) = true := by decide +kernel
            exact of_decide_eq_true (List.all_eq_true.1 this x h)
          · simp only [List.mem_cons, List.not_mem_nil, or_false] at h
            rcases h with rfl | rfl | rfl | rfl <;> omega
        have hlen : (wordsS ++ [raw, t, t1, t2]).length = 39 := rfl
        have HLN := Lib.hid hln
        have HR2 := Lib.hid hrd2
        have HBW := Lib.hid hbW
        clear hrd2' hrd2 hbW hln hown2 hgrow hat ht1 ht2 HRD HOW HB2
        generalize wordsS ++ [raw, t, t1, t2] = names at *
        have HLEN := Lib.hid hlen
        have hlen2 : names.length ≤ 39 := by omega
        clear hlen
        go_wp2_with fail
        go_loopw [9, 43] (fun _ i wr => ∃ k : Nat, k ≤ 39 ∧ i = .int .i64 k ∧ Below w.heap.size w wr ∧ RdB wr 9 (some ⟨g9, 0, none⟩) (strs names)) (fun _ i _ => 39 - (intOf i).toNat)
        case atStart => exact ⟨0, Nat.zero_le _, rfl, HBW.out, HR2.out⟩
        case round =>
          obtain ⟨k, hk, rfl, hb, hr⟩ := hrel
          have HBB := Lib.hid hb
          have HRR := Lib.hid hr
          clear hb hr
          by_cases hlt : k < 39
          · obtain ⟨g, off, hA, hc⟩ := rd_at HRR.out (j := k) (by rw [HLEN.out]; exact hlt)
            have hxl := HLN.out _ (List.getElem_mem (show k < names.length by rw [HLEN.out]; exact hlt))
            injection hA with hA
            injection hA with e1 e2
            subst e1 e2
            rw [Nat.zero_add] at hc
            generalize names[k]'(by rw [HLEN.out]; exact hlt) = x at *
            go_wp2_with fail
            refine (name_calls x _ hxl).mono ?_
            rintro e w' ⟨rfl, rfl⟩
            go_wp2_with fail
            refine (rname_calls x _ hxl).mono ?_
            rintro e V2 ⟨rfl, hV⟩
            have HV1 := Lib.hid (HBB.out.trans (hV.mono HBB.out.size))
            have HV2 := Lib.hid (HRR.out.below hV)
            clear hV hc
            generalize nameS x = b
            go_wp2_with fail
            exact ⟨⟨k + 1, by omega, rfl, HV1.out, HV2.out⟩, by simp [intOf]; omega⟩
          · go_wp2_with fail
            refine (words_calls _).mono ?_
            rintro e w3 ⟨rfl, rfl⟩
            have HR3 := Lib.hid (.inr ⟨wr.heap.size, 0, _, rfl, heap_new _ _, fun j u h => by rw [Nat.zero_add, ← Array.getElem?_toList]; exact h⟩ : RdB (wr.alloc (.cells (strs wordsS).toArray 9)) 9 (some ⟨wr.heap.size, 0, none⟩) (strs wordsS))
            have HB3 := Lib.hid (HBB.out.alloc HBB.out.size (.cells (strs wordsS).toArray 9))
            generalize (wr.alloc (.cells (strs wordsS).toArray 9)) = V at *
            generalize wr.heap.size = g3 at *
            go_wp2_with fail
            go_loopw [11, 55] (fun _ i wv => ∃ k : Nat, k ≤ 35 ∧ i = .int .i64 k ∧ V = wv) (fun _ i _ => 35 - (intOf i).toNat)
            case atStart => exact ⟨0, Nat.zero_le _, rfl, rfl⟩
            case round =>
              obtain ⟨k, hk, rfl, rfl⟩ := hrel
              by_cases hlt : k < 35
              · obtain ⟨g, off, hA, hc⟩ := rd_at HR3.out (j := k) hlt
                have hno : nameS (wordsS[k]'hlt) = false := by
                  have h : wordsS.all (fun x => !(nameS x)) = true := by decide +kernel
                  have := List.all_eq_true.1 h _ (List.getElem_mem hlt)
                  simpa using this
                have hxl : (wordsS[k]'hlt).length ≤ 140737488351232 := by
                  have h : wordsS.all (fun x => decide (x.length ≤ 140737488351232)) = true := by decide +kernel
                  exact of_decide_eq_true (List.all_eq_true.1 h _ (List.getElem_mem hlt))
                injection hA with hA
                injection hA with e1 e2
                subst e1 e2
                rw [Nat.zero_add] at hc
                generalize wordsS[k]'hlt = x at *
                have HNO := Lib.hid hno
                clear hno
                go_wp2_with fail
                refine (name_calls x _ hxl).mono ?_
                rw [HNO.out]
                rintro e w' ⟨rfl, rfl⟩
                clear hc
                go_wp2_with fail
                exact ⟨⟨k + 1, by omega, rfl, trivial⟩, by simp [intOf]; omega⟩
              · go_wp2_with fail
                go_ret
                exact ⟨rfl, HB3.out⟩
end Go.Proofs.YtdkcdodkhghfhaaGreatDoor
