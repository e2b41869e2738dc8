import Derived.Test.YtdkcdodkhghfhaaGreatDoorR2
import Derived.Lib.DecodeN
import Derived.Test.YtdkcdodkhghfhaaGreatDoorU
import Derived.Test.YtdkcdodkhghfhaaGreatDoorPR0
import Derived.Test.YtdkcdodkhghfhaaGreatDoorPA
/- Plain: a right constant's text is read as the constant. -/
namespace Go.Proofs.YtdkcdodkhghfhaaGreatDoor
open Go

theorem parseUint_app : ∀ (a b : Str) (acc v : Nat), Lib.parseUint10 acc a = .ok v → Lib.parseUint10 acc (a ++ b) = Lib.parseUint10 v b
  | [], b, acc, v, h => by
    simp only [Lib.parseUint10] at h
    injection h with h
    subst h
    rfl
  | c :: r, b, acc, v, h => by
    simp only [Lib.parseUint10, List.cons_append] at h ⊢
    split at h
    · rename_i h1
      rw [if_pos h1]
      split at h
      · cases h
      · rename_i h2
        rw [if_neg h2]
        split at h
        · cases h
        · rename_i h3
          rw [if_neg h3]
          exact parseUint_app r b _ v h
    · cases h
theorem parse_digits : ∀ (n u : Nat), u ≤ n → u < 1000000000000000000 → Lib.parseUint10 0 (Lib.decDigits u) = .ok u
  | n, u, hn, hu => by
    have one : ∀ (acc d : Nat), d < 10 → acc * 10 + d < 10000000000000000000 → Lib.parseUint10 acc [UInt8.ofNat (48 + d)] = .ok (acc * 10 + d) := by
      intro acc d hd ha
      have ht : (UInt8.ofNat (48 + d)).toNat = 48 + d := by simp; omega
      simp only [Lib.parseUint10, ht]
      rw [if_pos (by omega), if_neg (by omega), if_neg (by omega)]
      congr 1
      omega
    rw [Lib.decDigits]
    by_cases h : u < 10
    · rw [dif_pos h]
      have := one 0 u h (by omega)
      simpa using this
    · rw [dif_neg h]
      match n with
      | 0 => omega
      | n + 1 =>
        rw [parseUint_app _ _ 0 (u / 10) (parse_digits n (u / 10) (by omega) (by omega)), one _ _ (by omega) (by omega)]
        congr 1
        omega
theorem digits_ne (u : Nat) : Lib.decDigits u ≠ [] := by
  rw [Lib.decDigits]
  split <;> simp
theorem atoi_itoa (n : Int) (h0 : -1000000000000000 ≤ n) (h1 : n ≤ 1000000000000000) : Lib.atoiAll (Lib.itoa n) = .ok n := by
  obtain ⟨c, t, hd, hc1, hc2⟩ := decDigits_head n.natAbs n.natAbs (Nat.le_refl _)
  have hc1' : 48 ≤ c.toNat := UInt8.le_iff_toNat_le.1 hc1
  have hp := parse_digits n.natAbs n.natAbs (Nat.le_refl _) (by omega)
  unfold Lib.itoa
  by_cases h : n < 0
  · rw [if_pos h]
    have h45 : (45 : UInt8).toNat = 45 := rfl
    simp only [Lib.atoiAll, h45]
    rw [if_pos (by simp), Lib.parseMag, if_neg (digits_ne _), hp]
    simp only
    rw [if_neg (by simp), if_neg (by omega)]
    simp only [if_true]
    congr 1
    omega
  · rw [if_neg h, show n.toNat = n.natAbs from by omega, hd]
    rw [hd] at hp
    simp only [Lib.atoiAll]
    rw [if_neg (by omega), Lib.parseMag, if_neg (by simp), hp]
    simp only
    rw [if_neg (by omega), if_neg (by omega), if_neg (by omega)]
    congr 1
    omega

/-- Each quote doubled, and back. -/
def dbl (s : Str) : Str := subst1 39 [39, 39] s
theorem dbl_cons (b : UInt8) (s : Str) : dbl (b :: s) = (if b = 39 then [39, 39] else [b]) ++ dbl s := by simp [dbl, subst1]
theorem index2_ne (b : UInt8) (l : Str) (h : b ≠ 39) : Lib.index (b :: l) [39, 39] = if Lib.index l [39, 39] = -1 then -1 else Lib.index l [39, 39] + 1 := by
  rw [Lib.index]
  simp [List.isPrefixOf, Ne.symm h]
theorem index2_hit (l : Str) : Lib.index (39 :: 39 :: l) [39, 39] = 0 := by
  rw [Lib.index]
  simp [List.isPrefixOf]
theorem index2_nil : Lib.index [] [39, 39] = -1 := by simp [Lib.index]
theorem index2_ge : ∀ s : Str, -1 ≤ Lib.index (dbl s) [39, 39]
  | [] => by simp [dbl, subst1, index2_nil]
  | b :: s => by
    have := index2_ge s
    rw [dbl_cons]
    by_cases hb : b = 39
    · rw [if_pos hb]; simp only [List.cons_append, List.nil_append]; rw [index2_hit]; omega
    · rw [if_neg hb]; simp only [List.cons_append, List.nil_append]; rw [index2_ne b _ hb]; split <;> omega
theorem undbl : ∀ (s : Str) (fuel : Nat), (dbl s).length + 1 ≤ fuel → Lib.replaceK [39, 39] [39] (Lib.countFrom [39, 39] fuel (dbl s)) (dbl s) = s
  | [], fuel, h => by
    obtain ⟨f, rfl⟩ : ∃ f, fuel = f + 1 := ⟨fuel - 1, by omega⟩
    simp [dbl, subst1, Lib.countFrom, index2_nil, Lib.replaceK]
  | b :: l, fuel, h => by
    obtain ⟨f, rfl⟩ : ∃ f, fuel = f + 1 := ⟨fuel - 1, by omega⟩
    rw [dbl_cons] at h ⊢
    by_cases hb : b = 39
    · rw [if_pos hb] at h ⊢
      simp only [List.cons_append, List.nil_append, List.length_cons] at h ⊢
      have ih := undbl l f (by omega)
      have hi := index2_hit (dbl l)
      have hc : Lib.countFrom [39, 39] (f + 1) (39 :: 39 :: dbl l) = Lib.countFrom [39, 39] f (dbl l) + 1 := by
        simp [Lib.countFrom, hi]; omega
      rw [hc]
      subst hb
      simp only [Lib.replaceK, hi]
      simp [ih]
    · rw [if_neg hb] at h ⊢
      simp only [List.cons_append, List.nil_append, List.length_cons] at h ⊢
      by_cases hl : Lib.index (dbl l) [39, 39] = -1
      · have hi : Lib.index (b :: dbl l) [39, 39] = -1 := by rw [index2_ne b _ hb, if_pos hl]
        have ih := undbl l (f + 1) (by omega)
        have h0 : Lib.countFrom [39, 39] (f + 1) (dbl l) = 0 := by simp [Lib.countFrom, hl]
        have h1 : Lib.countFrom [39, 39] (f + 1) (b :: dbl l) = 0 := by simp [Lib.countFrom, hi]
        rw [h0] at ih
        rw [h1]
        simp only [Lib.replaceK] at ih ⊢
        rw [ih]
      · have hi : Lib.index (b :: dbl l) [39, 39] = Lib.index (dbl l) [39, 39] + 1 := by rw [index2_ne b _ hb, if_neg hl]
        have hge := index2_ge l
        obtain ⟨i, hii⟩ : ∃ i : Nat, Lib.index (dbl l) [39, 39] = i := ⟨(Lib.index (dbl l) [39, 39]).toNat, by omega⟩
        have ih := undbl l (f + 1) (by omega)
        rw [hii] at hi
        have e1 : (((i : Int) + 1)).toNat = i + 1 := by omega
        have n1 : ((i : Int) == -1) = false := by simp
        have n2 : (((i : Int) + 1) == -1) = false := by rw [beq_eq_false_iff_ne]; omega
        have h0 : Lib.countFrom [39, 39] (f + 1) (dbl l) = Lib.countFrom [39, 39] f ((dbl l).drop (i + 2)) + 1 := by
          simp [Lib.countFrom, hii, n1]; omega
        have h1 : Lib.countFrom [39, 39] (f + 1) (b :: dbl l) = Lib.countFrom [39, 39] f ((dbl l).drop (i + 2)) + 1 := by
          simp only [Lib.countFrom, hi, n2, e1]; simp; omega
        rw [h0] at ih
        rw [h1]
        simp only [Lib.replaceK, hii, hi, n1, n2, e1] at ih ⊢
        simp at ih ⊢
        exact ih
theorem replace_dbl (s : Str) : Lib.replaceAll (dbl s) [39, 39] [39] = s := by
  unfold Lib.replaceAll Lib.replace Lib.replaceNum Lib.count
  rw [if_neg (by simp), if_pos (.inl (by omega))]
  exact undbl s _ (Nat.le_refl _)
theorem inner_quo (s : Str) : innerS (quoS s) = s := by
  unfold innerS quoS
  have : ((39 :: (subst1 39 [39, 39] s ++ [39])).take ((39 :: (subst1 39 [39, 39] s ++ [39])).length - 1)).drop 1 = dbl s := by
    simp [dbl]
  rw [this, replace_dbl]
theorem quo_no (t : Str) : numB (39 :: t) = false := by
  unfold numB Lib.atoiAll
  simp [Lib.parseMag, Lib.parseUint10]
/-- A right constant's text is read as the constant. -/
theorem lit_round (v : Val) (h : (litS v).2 = true) : readLitV (litS v).1 = v ∧ readLitB (litS v).1 = true := by
  have key : readLitV (litS v).1 = v := by
    unfold litS at h ⊢
    split at h
    · rename_i e; rw [if_pos e, e]; rfl
    · rename_i e1
      rw [if_neg e1]
      split at h
      · rename_i e; rw [if_pos e, e]; decide
      · rename_i e2
        rw [if_neg e2]
        split at h
        · rename_i e; rw [if_pos e, e]; decide
        · rename_i e3
          rw [if_neg e3]
          split at h
          · rename_i e
            rw [if_pos e]
            simp only [Bool.and_eq_true, decide_eq_true_eq] at h
            obtain ⟨c, t, hh, hc⟩ := itoa_head v.n
            have ha := atoi_itoa v.n h.1 h.2
            have hne : ∀ w : Str, (∃ x y, w = x :: y ∧ 97 ≤ x) → Lib.itoa v.n ≠ w := by
              rintro w ⟨x, y, rfl, hx⟩ e'
              rw [hh] at e'
              injection e' with e1 _
              subst e1
              rcases hc with rfl | ⟨_, h2⟩
              · exact absurd hx (by decide)
              · exact absurd (UInt8.le_trans hx h2) (by decide)
            unfold readLitV
            simp only
            rw [if_neg (hne _ ⟨_, _, rfl, by decide⟩), if_neg (hne _ ⟨_, _, rfl, by decide⟩), if_neg (hne _ ⟨_, _, rfl, by decide⟩), ha]
            obtain ⟨k, n, s⟩ := v
            simp only at e ⊢
            rw [e.1, e.2]
          · rename_i e
            rw [if_neg e]
            simp only [Bool.and_eq_true, decide_eq_true_eq] at h
            unfold readLitV
            have hq : ∀ w : Str, (∃ x y, w = x :: y ∧ x ≠ 39) → quoS v.s ≠ w := by
              rintro w ⟨x, y, rfl, hx⟩ e'
              unfold quoS at e'
              injection e' with e1 _
              exact hx e1.symm
            have hl : 1 < (quoS v.s).length := by unfold quoS; simp
            simp only
            rw [if_neg (hq _ ⟨_, _, rfl, by decide⟩), if_neg (hq _ ⟨_, _, rfl, by decide⟩), if_neg (hq _ ⟨_, _, rfl, by decide⟩), inner_quo]
            have hnum := quo_no (subst1 39 [39, 39] v.s ++ [39])
            unfold numB at hnum
            unfold quoS at hl ⊢
            split
            · rename_i n hn
              rw [hn] at hnum
              cases hnum
            · rw [if_pos hl]
              obtain ⟨k, n, s⟩ := v
              simp only at h ⊢
              rw [h.1.1.1, h.1.1.2]
  refine ⟨key, ?_⟩
  unfold readLitB
  rw [key, h]
  simp
end Go.Proofs.YtdkcdodkhghfhaaGreatDoor
/- Plain: which strings hold a byte that no constant may hold; the bytes of right texts. -/
namespace Go.Proofs.YtdkcdodkhghfhaaGreatDoor
open Go

theorem dec_lo (n b0 b1 b2 b3 : Nat) (h : b0 < 128) : Lib.decodeN n b0 b1 b2 b3 = (b0, 1) := by unfold Lib.decodeN; rw [if_pos h]
theorem dec_hi (n b0 b1 b2 b3 : Nat) (h : 128 ≤ b0) : 128 ≤ (Lib.decodeN n b0 b1 b2 b3).1 := by
  unfold Lib.decodeN
  rw [if_neg (by omega)]
  repeat' split
  all_goals (simp only; omega)
def odd1 (c : UInt8) : Bool := oddP c.toNat
theorem get_list (l : Str) (i : Nat) (h : i < l.length) : (⟨l.toArray⟩ : ByteArray).get! i = l[i] := by
  show l.toArray[i]! = l[i]
  simp [h]
theorem odd_from (l : Str) : ∀ (f pos : Nat), l.length ≤ pos + f → ((0 ≤ Lib.idxFuncFrom oddP true ⟨l.toArray⟩ f pos) ↔ (l.drop pos).any odd1 = true)
  | 0, pos, h => by
    rw [List.drop_eq_nil_of_le (by omega)]
    simp [Lib.idxFuncFrom]
  | f + 1, pos, h => by
    have hs : (⟨l.toArray⟩ : ByteArray).size = l.length := rfl
    by_cases hp : pos < l.length
    · have hd : l.drop pos = l[pos] :: l.drop (pos + 1) := List.drop_eq_getElem_cons hp
      rw [hd, List.any_cons]
      unfold Lib.idxFuncFrom
      rw [if_pos (by rw [hs]; exact hp), Lib.decode_at, get_list l pos hp]
      generalize hx : l[pos].toNat = x
      have ho : odd1 l[pos] = oddP x := by unfold odd1; rw [hx]
      rw [ho]
      by_cases h128 : x < 128
      · rw [dec_lo _ _ _ _ _ h128]
        simp only
        cases hodd : oddP x with
        | true => simp
        | false =>
          rw [if_neg (by simp)]
          simpa using odd_from l f (pos + 1) (by omega)
      · have hh := dec_hi ((⟨l.toArray⟩ : ByteArray).size - pos) x ((⟨l.toArray⟩ : ByteArray).get! (pos + 1)).toNat ((⟨l.toArray⟩ : ByteArray).get! (pos + 2)).toNat ((⟨l.toArray⟩ : ByteArray).get! (pos + 3)).toNat (by omega)
        have h1 : oddP (Lib.decodeN ((⟨l.toArray⟩ : ByteArray).size - pos) x ((⟨l.toArray⟩ : ByteArray).get! (pos + 1)).toNat ((⟨l.toArray⟩ : ByteArray).get! (pos + 2)).toNat ((⟨l.toArray⟩ : ByteArray).get! (pos + 3)).toNat).1 = true := by
          unfold oddP
          rw [decide_eq_true (show 126 < _ by omega), Bool.or_true]
        have h2 : oddP x = true := by
          unfold oddP
          rw [decide_eq_true (show 126 < x by omega), Bool.or_true]
        rw [if_pos h1, h2]
        simp
    · rw [List.drop_eq_nil_of_le (by omega)]
      unfold Lib.idxFuncFrom
      rw [if_neg (by rw [hs]; exact hp)]
      simp
theorem oddS_any (l : Str) : oddS l = l.any odd1 := by
  unfold oddS Lib.idxFunc
  rw [Bool.eq_iff_iff, decide_eq_true_eq]
  exact odd_from l l.length 0 (by omega)

/-- Are all of a text's bytes printable? -/
def prt (s : Str) : Bool := s.all fun c => !(odd1 c)
theorem prt_app (a b : Str) : prt (a ++ b) = (prt a && prt b) := by simp [prt]
theorem aln_prt (c : UInt8) (h : aln c = true) : odd1 c = false := by
  rw [← alnI_byte] at h
  unfold alnI at h
  unfold odd1 oddP
  simp at h ⊢
  omega
theorem name_aln {s : Str} (h : nameS s = true) : s.all aln = true ∧ s ≠ [] := by
  unfold nameS at h
  split at h
  · cases h
  · simp only [Bool.and_eq_true] at h
    exact ⟨h.2, by simp⟩
theorem name_prt {s : Str} (h : nameS s = true) : prt s = true := by
  have h1 := (name_aln h).1
  unfold prt
  rw [List.all_eq_true] at h1 ⊢
  intro c hc
  rw [aln_prt c (h1 c hc)]
  rfl
theorem spc_prt : ∀ (l : List Str), l.all nameS = true → prt (spc l) = true
  | [], _ => rfl
  | x :: l, h => by
    simp only [List.all_cons, Bool.and_eq_true] at h
    show prt ((32 :: x) ++ spc l) = true
    rw [prt_app, spc_prt l h.2, Bool.and_true]
    have := name_prt h.1
    unfold prt at this ⊢
    rw [List.all_cons, this]
    rfl
theorem digits_prt : ∀ (n u : Nat), u ≤ n → prt (Lib.decDigits u) = true
  | n, u, hn => by
    have one : ∀ d, d < 10 → prt [UInt8.ofNat (48 + d)] = true := by
      intro d hd
      unfold prt odd1 oddP
      have ht : (UInt8.ofNat (48 + d)).toNat = 48 + d := by simp; omega
      simp only [List.all_cons, List.all_nil, ht]
      simp
      omega
    rw [Lib.decDigits]
    by_cases h : u < 10
    · rw [dif_pos h]; exact one u h
    · rw [dif_neg h]
      match n with
      | 0 => omega
      | n + 1 => rw [prt_app, digits_prt n (u / 10) (by omega), one _ (by omega)]; rfl
theorem dbl_prt : ∀ s : Str, s.any odd1 = false → prt (dbl s) = true
  | [], _ => rfl
  | b :: s, h => by
    simp only [List.any_cons, Bool.or_eq_false_iff] at h
    rw [dbl_cons, prt_app, dbl_prt s h.2, Bool.and_true]
    split
    · rfl
    · simp [prt, h.1]
theorem lit_prt (v : Val) (h : (litS v).2 = true) : prt (litS v).1 = true := by
  unfold litS at h ⊢
  split
  · decide
  · rename_i e1
    rw [if_neg e1] at h
    split
    · decide
    · rename_i e2
      rw [if_neg e2] at h
      split
      · decide
      · rename_i e3
        rw [if_neg e3] at h
        split
        · simp only
          unfold Lib.itoa
          split
          · show prt ([45] ++ _) = true
            rw [prt_app, digits_prt _ _ (Nat.le_refl _)]; decide
          · exact digits_prt _ _ (Nat.le_refl _)
        · rename_i e4
          rw [if_neg e4] at h
          simp only [Bool.and_eq_true, Bool.not_eq_true'] at h
          have ho := h.2
          rw [oddS_any] at ho
          have hd := dbl_prt _ ho
          simp only
          show prt ([39] ++ (dbl v.s ++ [39])) = true
          rw [prt_app, prt_app, hd]
          decide
end Go.Proofs.YtdkcdodkhghfhaaGreatDoor
/- Plain: a right line's text is read as the line, and only it; what is read is written as it was. -/
namespace Go.Proofs.YtdkcdodkhghfhaaGreatDoor
open Go

/-- What stands for a letter of a form. -/
def pieceT (l : Ln) (c : UInt8) : Str :=
  if c = 65 then l.a else if c = 66 then l.b else if c = 67 then l.c else if c = 78 then l.nm else if c = 76 then (litS l.cv).1 else if c = 73 then (litS l.cv).1
  else if c = 126 then spc l.args else [c]
/-- Is it right, but for the number of arguments? -/
def okX (l : Ln) (c : UInt8) : Bool :=
  if c = 65 then nameS l.a else if c = 66 then nameS l.b else if c = 67 then nameS l.c else if c = 78 then nameS l.nm else if c = 76 then (litS l.cv).2 else if c = 73 then (litS l.cv).2 && decide (l.cv.k = 3)
  else if c = 126 then l.args.all nameS else true
def okT (l : Ln) (c : UInt8) : Bool := okX l c && (if c = 126 then decide (l.args.length ≤ 8) else true)
/-- A line of which what a form shows is left out. -/
def NF (f : Str) (l : Ln) : Ln := ⟨l.op, if 65 ∈ f then [] else l.a, if 66 ∈ f then [] else l.b, if 67 ∈ f then [] else l.c, if 78 ∈ f then [] else l.nm, if 126 ∈ f then [] else l.args, if 76 ∈ f ∨ 73 ∈ f then Val.zero else l.cv⟩
theorem NF_nil (l : Ln) : NF [] l = l := by simp [NF]
/-- Each letter stands once at most. -/
def once : Str → Bool
  | [] => true
  | c :: g => (if c = 65 ∨ c = 66 ∨ c = 67 ∨ c = 78 ∨ c = 126 then decide (c ∉ g) else if c = 76 ∨ c = 73 then decide (76 ∉ g) && decide (73 ∉ g) else true) && once g
theorem fold_piece (l : Ln) : ∀ (f pre : Str) (acc : Str) (ok : Bool), once f = true → (∀ c ∈ f, (c = 65 ∨ c = 66 ∨ c = 67 ∨ c = 78) → c ∉ pre) →
    f.foldl (fun x c => stepT l c x) (acc, ok, NF pre l) = (acc ++ f.flatMap (pieceT l), ok && f.all (okT l), NF (pre ++ f) l)
  | [], pre, acc, ok, _, _ => by simp
  | c :: f, pre, acc, ok, ho, hp => by
    have h1 : once f = true := by
      unfold once at ho
      simp only [Bool.and_eq_true] at ho
      exact ho.2
    have hc := hp c (by simp)
    have hstep : stepT l c (acc, ok, NF pre l) = (acc ++ pieceT l c, ok && okT l c, NF (pre ++ [c]) l) := by
      unfold stepT pieceT okT okX NF
      by_cases e1 : c = 65
      · subst e1
        have := hc (by simp)
        simp [this]
      · by_cases e2 : c = 66
        · subst e2
          have := hc (by simp)
          simp [this]
        · by_cases e3 : c = 67
          · subst e3
            have := hc (by simp)
            simp [this]
          · by_cases e4 : c = 78
            · subst e4
              have := hc (by simp)
              simp [this]
            · by_cases e5 : c = 76
              · subst e5
                simp
              · by_cases e6 : c = 73
                · subst e6
                  simp [Bool.and_assoc]
                · by_cases e7 : c = 126
                  · subst e7
                    simp [Bool.and_assoc, spc]
                  · simp [e1, e2, e3, e4, e5, e6, e7, Ne.symm e1, Ne.symm e2, Ne.symm e3, Ne.symm e4, Ne.symm e5, Ne.symm e6, Ne.symm e7]
    have hp2 : ∀ c' ∈ f, (c' = 65 ∨ c' = 66 ∨ c' = 67 ∨ c' = 78) → c' ∉ pre ++ [c] := by
      intro c' hc' hs hm
      rcases List.mem_append.1 hm with h | h
      · exact hp c' (by simp [hc']) hs h
      · simp only [List.mem_singleton] at h
        subst h
        unfold once at ho
        rw [if_pos (by rcases hs with h | h | h | h <;> simp [h])] at ho
        simp only [Bool.and_eq_true, decide_eq_true_eq] at ho
        exact ho.1 hc'
    rw [List.foldl_cons, hstep, fold_piece l f (pre ++ [c]) _ _ h1 hp2]
    simp [Bool.and_assoc]
theorem foldT_piece (l : Ln) (f : Str) (hf : formS l.op = some f) (ho : once f = true) : foldT l f = (f.flatMap (pieceT l), f.all (okT l), NF f l) := by
  unfold foldT
  rw [hf]
  have := fold_piece l f [] [] true ho (by simp)
  rw [NF_nil] at this
  simpa using this

/-- What may stand behind a name: no letter and no digit. -/
def headOk : Str → Bool
  | [] => true
  | c :: g => (!(aln c) && !(c == 126)) || (c == 126 && g == [])
def adj : Str → Bool
  | [] => true
  | c :: g => (if c = 65 ∨ c = 66 ∨ c = 67 ∨ c = 78 then headOk g else if c = 76 ∨ c = 126 then g == [] else if c = 73 then g.head? == some 32 else true) && adj g
theorem forms_good : formsL.all (fun p => once p.2 && adj p.2) = true := by decide +kernel
theorem form_good {op : Int} {f : Str} (h : formS op = some f) : once f = true ∧ adj f = true := by
  have := List.all_eq_true.1 forms_good _ (formS_some h)
  simpa using this
theorem run_app {s t : Str} (hs : s.all aln = true) (ht : t = [] ∨ ∃ c t', t = c :: t' ∧ aln c = false) : runS (s ++ t) = s := by
  unfold runS
  rw [List.takeWhile_append_of_pos (by simpa using hs)]
  rcases ht with rfl | ⟨c, t', rfl, hc⟩
  · simp
  · simp [hc]
theorem spc_head (l : List Str) : spc l = [] ∨ ∃ t', spc l = 32 :: t' := by
  cases l with
  | nil => exact .inl rfl
  | cons x l => exact .inr ⟨x ++ spc l, rfl⟩
theorem head_piece (l : Ln) (g : Str) (h : headOk g = true) : g.flatMap (pieceT l) = [] ∨ ∃ c t', g.flatMap (pieceT l) = c :: t' ∧ aln c = false := by
  cases g with
  | nil => exact .inl rfl
  | cons c g =>
    unfold headOk at h
    simp only [Bool.or_eq_true, Bool.and_eq_true, Bool.not_eq_true', beq_iff_eq] at h
    rcases h with ⟨h1, h2⟩ | ⟨h1, h2⟩
    · right
      have hn : ∀ x : UInt8, aln x = true → c ≠ x := fun x hx e => by rw [e, hx] at h1; cases h1
      have hp : pieceT l c = [c] := by
        unfold pieceT
        rw [if_neg (hn _ (by decide)), if_neg (hn _ (by decide)), if_neg (hn _ (by decide)), if_neg (hn _ (by decide)), if_neg (hn _ (by decide)), if_neg (hn _ (by decide)), if_neg (by simpa using h2)]
      exact ⟨c, g.flatMap (pieceT l), by rw [List.flatMap_cons, hp]; rfl, h1⟩
    · subst h1 h2
      have hp : [126].flatMap (pieceT l) = spc l.args := by simp [pieceT]
      rw [hp]
      rcases spc_head l.args with h | ⟨t', h⟩
      · exact .inl h
      · exact .inr ⟨32, t', h, by decide⟩
theorem args_round : ∀ (args : List Str) (n : Nat) (acc : List Str), (spc args).length < n → args.all nameS = true → argsF n acc (spc args) = some (acc ++ args, [])
  | [], n, acc, hn, _ => by
    match n, hn with
    | n + 1, _ => simp [argsF, spc]
  | x :: r, n, acc, hn, h => by
    match n, hn with
    | n + 1, hn =>
      simp only [List.all_cons, Bool.and_eq_true] at h
      have he : spc (x :: r) = 32 :: (x ++ spc r) := rfl
      have hr : runS (x ++ spc r) = x := run_app (name_aln h.1).1 (by
        rcases spc_head r with h | ⟨t', h⟩
        · exact .inl h
        · exact .inr ⟨32, t', h, by decide⟩)
      rw [he] at hn ⊢
      simp only [argsF]
      rw [if_pos trivial, hr, if_pos h.1]
      simp only [List.drop_left]
      rw [args_round r n (acc ++ [x]) (by simp at hn; omega) h.2]
      simp
theorem index1_app (c : UInt8) (r : Str) : ∀ t : Str, c ∉ t → Lib.index (t ++ c :: r) [c] = t.length
  | [], _ => by rw [List.nil_append, index1_cons, if_pos rfl]; rfl
  | b :: t, h => by
    simp only [List.mem_cons, not_or] at h
    have ih := index1_app c r t h.2
    rw [List.cons_append, index1_cons, if_neg (Ne.symm h.1), ih, if_neg (by omega)]
    simp
theorem cut_app (c : UInt8) (t r : Str) (h : c ∉ t) : Lib.cut (t ++ c :: r) [c] = (t, r, true) := by
  have hi := index1_app c r t h
  unfold Lib.cut
  rw [hi]
  simp
theorem itoa_digits (n : Int) : ∀ c ∈ Lib.itoa n, c = 45 ∨ (48 ≤ c ∧ c ≤ 57) := by
  have dd : ∀ (k u : Nat), u ≤ k → ∀ c ∈ Lib.decDigits u, 48 ≤ c ∧ c ≤ 57 := by
    intro k
    induction k with
    | zero =>
      intro u hu c hc
      have : u = 0 := by omega
      subst this
      rw [Lib.decDigits, dif_pos (by omega)] at hc
      simp only [List.mem_singleton] at hc
      subst hc
      decide
    | succ k ih =>
      intro u hu c hc
      have one : ∀ d, d < 10 → 48 ≤ UInt8.ofNat (48 + d) ∧ UInt8.ofNat (48 + d) ≤ 57 := by
        intro d hd
        rw [UInt8.le_iff_toNat_le, UInt8.le_iff_toNat_le]
        have ht : (UInt8.ofNat (48 + d)).toNat = 48 + d := by simp; omega
        rw [ht]
        exact ⟨by show 48 ≤ _; omega, by show _ ≤ 57; omega⟩
      rw [Lib.decDigits] at hc
      split at hc
      · simp only [List.mem_singleton] at hc
        subst hc
        exact one u (by omega)
      · rcases List.mem_append.1 hc with h | h
        · exact ih (u / 10) (by omega) c h
        · simp only [List.mem_singleton] at h
          subst h
          exact one _ (by omega)
  intro c hc
  unfold Lib.itoa at hc
  split at hc
  · rcases List.mem_cons.1 hc with h | h
    · exact .inl h
    · exact .inr (dd _ _ (Nat.le_refl _) c h)
  · exact .inr (dd _ _ (Nat.le_refl _) c hc)
theorem lit_int_nospace {v : Val} (h : (litS v).2 = true) (hk : v.k = 3) : 32 ∉ (litS v).1 := by
  have e : (litS v).1 = Lib.itoa v.n := by
    unfold litS at h ⊢
    have n1 : v ≠ ⟨1, 0, []⟩ := fun e => by rw [e] at hk; simp at hk
    have n2 : v ≠ ⟨2, 0, []⟩ := fun e => by rw [e] at hk; simp at hk
    have n3 : v ≠ ⟨2, 1, []⟩ := fun e => by rw [e] at hk; simp at hk
    rw [if_neg n1, if_neg n2, if_neg n3] at h ⊢
    split
    · rfl
    · rename_i e4
      rw [if_neg e4, hk] at h
      simp at h
  rw [e]
  intro h32
  rcases itoa_digits v.n 32 h32 with h | ⟨h, _⟩
  · exact absurd h (by decide)
  · exact absurd h (by decide)
end Go.Proofs.YtdkcdodkhghfhaaGreatDoor
/- Plain: lines and their texts, both ways. -/
namespace Go.Proofs.YtdkcdodkhghfhaaGreatDoor
open Go

theorem once_tail {c : UInt8} {f : Str} (h : once (c :: f) = true) : once f = true := by
  unfold once at h
  simp only [Bool.and_eq_true] at h
  exact h.2
theorem adj_tail {c : UInt8} {f : Str} (h : adj (c :: f) = true) : adj f = true := by
  unfold adj at h
  simp only [Bool.and_eq_true] at h
  exact h.2
theorem once_not {c : UInt8} {f : Str} (h : once (c :: f) = true) (hc : c = 65 ∨ c = 66 ∨ c = 67 ∨ c = 78 ∨ c = 126) : c ∉ f := by
  unfold once at h
  rw [if_pos hc] at h
  simp only [Bool.and_eq_true, decide_eq_true_eq] at h
  exact h.1
theorem once_not2 {c : UInt8} {f : Str} (h : once (c :: f) = true) (hc : c = 76 ∨ c = 73) : 76 ∉ f ∧ 73 ∉ f := by
  unfold once at h
  rw [if_neg (by rcases hc with rfl | rfl <;> decide), if_pos hc] at h
  simp only [Bool.and_eq_true, decide_eq_true_eq] at h
  exact h.1
theorem adj_head {c : UInt8} {f : Str} (h : adj (c :: f) = true) (hc : c = 65 ∨ c = 66 ∨ c = 67 ∨ c = 78) : headOk f = true := by
  unfold adj at h
  rw [if_pos hc] at h
  simp only [Bool.and_eq_true] at h
  exact h.1
theorem adj_last {c : UInt8} {f : Str} (h : adj (c :: f) = true) (hc : c = 76 ∨ c = 126) : f = [] := by
  unfold adj at h
  rw [if_neg (by rcases hc with rfl | rfl <;> decide), if_pos hc] at h
  simp only [Bool.and_eq_true, beq_iff_eq] at h
  exact h.1
theorem adj_int {f : Str} (h : adj (73 :: f) = true) : ∃ g, f = 32 :: g := by
  unfold adj at h
  rw [if_neg (by decide), if_neg (by decide), if_pos rfl] at h
  simp only [Bool.and_eq_true, beq_iff_eq] at h
  cases f with
  | nil => simp at h
  | cons x g =>
    have := h.1
    simp only [List.head?_cons, Option.some.injEq] at this
    exact ⟨g, by rw [this]⟩
theorem plain_piece {c : UInt8} (l : Ln) (h : ¬ (c = 65 ∨ c = 66 ∨ c = 67 ∨ c = 78 ∨ c = 76 ∨ c = 73 ∨ c = 126)) : pieceT l c = [c] ∧ okX l c = true := by
  simp only [not_or] at h
  obtain ⟨h1, h2, h3, h4, h5, h6, h7⟩ := h
  unfold pieceT okX
  simp [h1, h2, h3, h4, h5, h6, h7]
theorem stepF_plain {c : UInt8} (y : Ln) (s : Str) (h : ¬ (c = 65 ∨ c = 66 ∨ c = 67 ∨ c = 78 ∨ c = 76 ∨ c = 73 ∨ c = 126)) : stepF c y s = match s with | [] => none | x :: t => if x = c then some (y, t) else none := by
  simp only [not_or] at h
  obtain ⟨h1, h2, h3, h4, h5, h6, h7⟩ := h
  unfold stepF
  rw [if_neg h1, if_neg h2, if_neg h3, if_neg h4, if_neg h5, if_neg h6, if_neg h7]
  cases s <;> rfl
theorem NF_plain {c : UInt8} (f : Str) (l : Ln) (h : ¬ (c = 65 ∨ c = 66 ∨ c = 67 ∨ c = 78 ∨ c = 76 ∨ c = 73 ∨ c = 126)) : NF (c :: f) l = NF f l := by
  simp only [not_or] at h
  obtain ⟨h1, h2, h3, h4, h5, h6, h7⟩ := h
  unfold NF
  simp [Ne.symm h1, Ne.symm h2, Ne.symm h3, Ne.symm h4, Ne.symm h5, Ne.symm h6, Ne.symm h7]
theorem match_piece (l : Ln) : ∀ (f : Str), once f = true → adj f = true → f.all (okX l) = true → matchF f (NF f l) (f.flatMap (pieceT l)) = some l
  | [], _, _, _ => by simp [matchF, NF_nil]
  | c :: f, ho, ha, hk => by
    simp only [List.all_cons, Bool.and_eq_true] at hk
    have ih := match_piece l f (once_tail ho) (adj_tail ha) hk.2
    have key : stepF c (NF (c :: f) l) (pieceT l c ++ f.flatMap (pieceT l)) = some (NF f l, f.flatMap (pieceT l)) := by
      have nm1 : ∀ (s : Str), nameS s = true → headOk f = true → runS (s ++ f.flatMap (pieceT l)) = s := fun s hs hh => run_app (name_aln hs).1 (head_piece l f hh)
      by_cases e1 : c = 65
      · subst e1
        have hn := once_not ho (by simp)
        have hok : nameS l.a = true := hk.1
        have hr := nm1 l.a hok (adj_head ha (by simp))
        simp only [stepF, pieceT, if_true]
        rw [hr, if_pos hok]
        simp [NF, hn]
      · by_cases e2 : c = 66
        · subst e2
          have hn := once_not ho (by simp)
          have hok : nameS l.b = true := hk.1
          have hr := nm1 l.b hok (adj_head ha (by simp))
          have hp : pieceT l 66 = l.b := rfl
          rw [hp]
          unfold stepF
          rw [if_neg (by decide), if_pos rfl, hr, if_pos hok]
          simp [NF, hn]
        · by_cases e3 : c = 67
          · subst e3
            have hn := once_not ho (by simp)
            have hok : nameS l.c = true := hk.1
            have hr := nm1 l.c hok (adj_head ha (by simp))
            have hp : pieceT l 67 = l.c := rfl
            rw [hp]
            unfold stepF
            rw [if_neg (by decide), if_neg (by decide), if_pos rfl, hr, if_pos hok]
            simp [NF, hn]
          · by_cases e4 : c = 78
            · subst e4
              have hn := once_not ho (by simp)
              have hok : nameS l.nm = true := hk.1
              have hr := nm1 l.nm hok (adj_head ha (by simp))
              have hp : pieceT l 78 = l.nm := rfl
              rw [hp]
              unfold stepF
              rw [if_neg (by decide), if_neg (by decide), if_neg (by decide), if_pos rfl, hr, if_pos hok]
              simp [NF, hn]
            · by_cases e5 : c = 76
              · subst e5
                have hf := adj_last ha (by simp)
                subst hf
                have hok : (litS l.cv).2 = true := hk.1
                obtain ⟨r1, r2⟩ := lit_round l.cv hok
                have hp : pieceT l 76 = (litS l.cv).1 := rfl
                rw [hp]
                unfold stepF
                rw [if_neg (by decide), if_neg (by decide), if_neg (by decide), if_neg (by decide), if_pos rfl, List.flatMap_nil, List.append_nil, if_pos r2, r1]
                simp [NF]
              · by_cases e6 : c = 73
                · subst e6
                  obtain ⟨g, rfl⟩ := adj_int ha
                  have hok : ((litS l.cv).2 && decide (l.cv.k = 3)) = true := hk.1
                  simp only [Bool.and_eq_true, decide_eq_true_eq] at hok
                  obtain ⟨r1, r2⟩ := lit_round l.cv hok.1
                  have hn := once_not2 ho (by simp)
                  have hp : pieceT l 73 = (litS l.cv).1 := rfl
                  have hp2 : (32 :: g).flatMap (pieceT l) = 32 :: g.flatMap (pieceT l) := rfl
                  have hcut := cut_app 32 (litS l.cv).1 (g.flatMap (pieceT l)) (lit_int_nospace hok.1 hok.2)
                  rw [hp, hp2]
                  unfold stepF
                  rw [if_neg (by decide), if_neg (by decide), if_neg (by decide), if_neg (by decide), if_neg (by decide), if_pos rfl, hcut]
                  simp only
                  rw [r1, r2, hok.2]
                  simp only [List.mem_cons, not_or] at hn
                  simp [NF, hn.1.2, hn.2.2]
                · by_cases e7 : c = 126
                  · subst e7
                    have hf := adj_last ha (by simp)
                    subst hf
                    have hok : l.args.all nameS = true := hk.1
                    have hp : pieceT l 126 = spc l.args := rfl
                    have hr := args_round l.args ((spc l.args).length + 1) [] (by omega) hok
                    rw [hp]
                    unfold stepF
                    rw [if_neg (by decide), if_neg (by decide), if_neg (by decide), if_neg (by decide), if_neg (by decide), if_neg (by decide), if_pos rfl, List.flatMap_nil, List.append_nil]
                    have hz : (NF [126] l).args = [] := by simp [NF]
                    rw [hz, hr]
                    simp [NF]
                  · have hpl : ¬ (c = 65 ∨ c = 66 ∨ c = 67 ∨ c = 78 ∨ c = 76 ∨ c = 73 ∨ c = 126) := by simp [e1, e2, e3, e4, e5, e6, e7]
                    rw [(plain_piece l hpl).1, stepF_plain _ _ hpl, NF_plain f l hpl]
                    simp
    show matchF (c :: f) (NF (c :: f) l) (pieceT l c ++ f.flatMap (pieceT l)) = some l
    unfold matchF
    rw [key]
    exact ih
theorem NF_zero {f : Str} {l : Ln} (h : (NF f l).a = [] ∧ (NF f l).b = [] ∧ (NF f l).c = [] ∧ (NF f l).nm = [] ∧ (NF f l).args = [] ∧ (NF f l).cv = Val.zero) : NF f l = Ln.zero l.op := by
  obtain ⟨h1, h2, h3, h4, h5, h6⟩ := h
  have : NF f l = ⟨(NF f l).op, (NF f l).a, (NF f l).b, (NF f l).c, (NF f l).nm, (NF f l).args, (NF f l).cv⟩ := rfl
  rw [this, h1, h2, h3, h4, h5, h6]
  rfl
/-- What a right line is. -/
theorem lineT_right {l : Ln} (h : lineT l ≠ []) : ∃ f, formS l.op = some f ∧ f.all (okT l) = true ∧ NF f l = Ln.zero l.op ∧ lineT l = f.flatMap (pieceT l) := by
  unfold lineT at h ⊢
  cases hf : formS l.op with
  | none =>
    rw [hf] at h
    simp [foldT, hf] at h
  | some f =>
    rw [hf] at h
    simp only [Option.getD_some] at h ⊢
    rw [foldT_piece l f hf (form_good hf).1] at h ⊢
    by_cases hc : f.all (okT l) = true ∧ (NF f l).a = [] ∧ (NF f l).b = [] ∧ (NF f l).c = [] ∧ (NF f l).nm = [] ∧ (NF f l).args = [] ∧ (NF f l).cv = Val.zero
    · exact ⟨f, rfl, hc.1, NF_zero hc.2, if_pos hc⟩
    · exact absurd (if_neg hc) h
theorem lineT_of {l : Ln} {f : Str} (hf : formS l.op = some f) (hk : f.all (okT l) = true) (hz : NF f l = Ln.zero l.op) : lineT l = f.flatMap (pieceT l) := by
  unfold lineT
  rw [hf]
  simp only [Option.getD_some]
  rw [foldT_piece l f hf (form_good hf).1, hz]
  exact if_pos ⟨hk, rfl, rfl, rfl, rfl, rfl, rfl⟩
theorem okT_okX {l : Ln} {f : Str} (h : f.all (okT l) = true) : f.all (okX l) = true := by
  rw [List.all_eq_true] at h ⊢
  intro c hc
  have := h c hc
  unfold okT at this
  simp only [Bool.and_eq_true] at this
  exact this.1
/-- A right line's text is read as the line. -/
theorem line_round {l : Ln} (h : lineT l ≠ []) : rlS (lineT l) = some l := by
  obtain ⟨f, hf, hk, hz, ht⟩ := lineT_right h
  have hm := match_piece l f (form_good hf).1 (form_good hf).2 (okT_okX hk)
  rw [hz, ← ht] at hm
  have hr : RL (lineT l) (some l) := .inl ⟨(l.op, f), formS_some hf, l, hm, rfl⟩
  exact hr.eq.symm
theorem runS_drop (s : Str) : runS s ++ s.drop (runS s).length = s := by
  induction s with
  | nil => rfl
  | cons c s ih =>
    unfold runS at ih ⊢
    rw [List.takeWhile_cons]
    split
    · simpa using ih
    · simp
theorem cut_drop (s sep : Str) : (Lib.cut s sep).1 ++ s.drop (Lib.cut s sep).1.length = s := by
  unfold Lib.cut
  split
  · simp only [List.length_take]
    rcases Nat.le_total (Lib.index s sep).toNat s.length with h | h
    · rw [Nat.min_eq_left h, List.take_append_drop]
    · rw [Nat.min_eq_right h, List.take_of_length_le h]; simp
  · simp
theorem args_inv : ∀ (n : Nat) (acc : List Str) (s : Str) (r : List Str) (t : Str), argsF n acc s = some (r, t) → ∃ xs, r = acc ++ xs ∧ xs.all nameS = true ∧ s = spc xs ++ t
  | 0, _, _, _, _, h => by simp [argsF] at h
  | n + 1, acc, s, r, t, h => by
    match s with
    | [] =>
      simp only [argsF, Option.some.injEq, Prod.mk.injEq] at h
      exact ⟨[], by simp [h.1], rfl, by simp [spc, h.2]⟩
    | c :: u =>
      simp only [argsF] at h
      split at h
      · rename_i hc
        split at h
        · rename_i hn
          obtain ⟨xs, h1, h2, h3⟩ := args_inv n _ _ _ _ h
          refine ⟨runS u :: xs, by rw [h1]; simp, by simp [hn, h2], ?_⟩
          have := runS_drop u
          rw [h3] at this
          show c :: u = (32 :: runS u ++ spc xs) ++ t
          rw [hc, List.cons_append, List.cons_append, List.append_assoc, this]
        · cases h
      · simp only [Option.some.injEq, Prod.mk.injEq] at h
        exact ⟨[], by simp [h.1], rfl, by simp [spc, h.2]⟩
theorem NF_fields {f : Str} {l y : Ln} (h : NF f l = NF f y) : l.op = y.op ∧ (65 ∉ f → l.a = y.a) ∧ (66 ∉ f → l.b = y.b) ∧ (67 ∉ f → l.c = y.c) ∧ (78 ∉ f → l.nm = y.nm) ∧ (126 ∉ f → l.args = y.args) ∧ (76 ∉ f → 73 ∉ f → l.cv = y.cv) := by
  simp only [NF, Ln.mk.injEq] at h
  obtain ⟨h1, h2, h3, h4, h5, h6, h7⟩ := h
  refine ⟨h1, fun e => by simpa [e] using h2, fun e => by simpa [e] using h3, fun e => by simpa [e] using h4, fun e => by simpa [e] using h5, fun e => by simpa [e] using h6, fun e e' => by simpa [e, e'] using h7⟩
theorem NF_of {f : Str} {l y : Ln} (h1 : l.op = y.op) (h2 : 65 ∉ f → l.a = y.a) (h3 : 66 ∉ f → l.b = y.b) (h4 : 67 ∉ f → l.c = y.c) (h5 : 78 ∉ f → l.nm = y.nm) (h6 : 126 ∉ f → l.args = y.args) (h7 : 76 ∉ f → 73 ∉ f → l.cv = y.cv) : NF f l = NF f y := by
  have ite : ∀ {α : Type} {p : Prop} [Decidable p] (z u v : α), (¬ p → u = v) → (if p then z else u) = if p then z else v := by
    intro α p _ z u v h
    by_cases hp : p
    · rw [if_pos hp, if_pos hp]
    · rw [if_neg hp, if_neg hp, h hp]
  simp only [NF, Ln.mk.injEq]
  exact ⟨h1, ite _ _ _ h2, ite _ _ _ h3, ite _ _ _ h4, ite _ _ _ h5, ite _ _ _ h6, ite _ _ _ (fun h => h7 (fun h' => h (.inl h')) (fun h' => h (.inr h')))⟩
/-- What a form reads is written as it was. -/
theorem match_inv : ∀ (f : Str) (y : Ln) (s : Str) (l : Ln), once f = true → adj f = true → (126 ∈ f → y.args = []) → matchF f y s = some l → s = f.flatMap (pieceT l) ∧ f.all (okX l) = true ∧ NF f l = NF f y
  | [], y, s, l, _, _, _, h => by
    unfold matchF at h
    split at h
    · rename_i hs
      injection h with h
      subst h
      exact ⟨by simp [hs], rfl, rfl⟩
    · cases h
  | c :: f, y, s, l, ho, ha, hz, h => by
    obtain ⟨⟨y1, s1⟩, hs, hm⟩ := step_some h
    simp only at hm
    have ho2 := once_tail ho
    have ha2 := adj_tail ha
    by_cases e1 : c = 65
    · subst e1
      have hn := once_not ho (by simp)
      unfold stepF at hs
      rw [if_pos rfl] at hs
      split at hs
      · rename_i hnm
        simp only [Option.some.injEq, Prod.mk.injEq] at hs
        obtain ⟨rfl, rfl⟩ := hs
        obtain ⟨i1, i2, i3⟩ := match_inv f ({ y with a := runS s }) _ l ho2 ha2 (fun hm => hz (by simp [hm])) hm
        obtain ⟨n1, n2, n3, n4, n5, n6, n7⟩ := NF_fields i3
        have hla : l.a = runS s := n2 hn
        refine ⟨?_, ?_, NF_of n1 (by simp) (by simpa using n3) (by simpa using n4) (by simpa using n5) (by simpa using n6) (by simpa using n7)⟩
        · rw [List.flatMap_cons, show pieceT l 65 = l.a from rfl, hla, ← i1, runS_drop]
        · rw [List.all_cons, i2, show okX l 65 = nameS l.a from rfl, hla, hnm]; rfl
      · cases hs
    by_cases e2 : c = 66
    · subst e2
      have hn := once_not ho (by simp)
      unfold stepF at hs
      rw [if_neg (by decide), if_pos rfl] at hs
      split at hs
      · rename_i hnm
        simp only [Option.some.injEq, Prod.mk.injEq] at hs
        obtain ⟨rfl, rfl⟩ := hs
        obtain ⟨i1, i2, i3⟩ := match_inv f ({ y with b := runS s }) _ l ho2 ha2 (fun hm => hz (by simp [hm])) hm
        obtain ⟨n1, n2, n3, n4, n5, n6, n7⟩ := NF_fields i3
        have hla : l.b = runS s := n3 hn
        refine ⟨?_, ?_, NF_of n1 (by simpa using n2) (by simp) (by simpa using n4) (by simpa using n5) (by simpa using n6) (by simpa using n7)⟩
        · rw [List.flatMap_cons, show pieceT l 66 = l.b from rfl, hla, ← i1, runS_drop]
        · rw [List.all_cons, i2, show okX l 66 = nameS l.b from rfl, hla, hnm]; rfl
      · cases hs
    by_cases e3 : c = 67
    · subst e3
      have hn := once_not ho (by simp)
      unfold stepF at hs
      rw [if_neg (by decide), if_neg (by decide), if_pos rfl] at hs
      split at hs
      · rename_i hnm
        simp only [Option.some.injEq, Prod.mk.injEq] at hs
        obtain ⟨rfl, rfl⟩ := hs
        obtain ⟨i1, i2, i3⟩ := match_inv f ({ y with c := runS s }) _ l ho2 ha2 (fun hm => hz (by simp [hm])) hm
        obtain ⟨n1, n2, n3, n4, n5, n6, n7⟩ := NF_fields i3
        have hla : l.c = runS s := n4 hn
        refine ⟨?_, ?_, NF_of n1 (by simpa using n2) (by simpa using n3) (by simp) (by simpa using n5) (by simpa using n6) (by simpa using n7)⟩
        · rw [List.flatMap_cons, show pieceT l 67 = l.c from rfl, hla, ← i1, runS_drop]
        · rw [List.all_cons, i2, show okX l 67 = nameS l.c from rfl, hla, hnm]; rfl
      · cases hs
    by_cases e4 : c = 78
    · subst e4
      have hn := once_not ho (by simp)
      unfold stepF at hs
      rw [if_neg (by decide), if_neg (by decide), if_neg (by decide), if_pos rfl] at hs
      split at hs
      · rename_i hnm
        simp only [Option.some.injEq, Prod.mk.injEq] at hs
        obtain ⟨rfl, rfl⟩ := hs
        obtain ⟨i1, i2, i3⟩ := match_inv f ({ y with nm := runS s }) _ l ho2 ha2 (fun hm => hz (by simp [hm])) hm
        obtain ⟨n1, n2, n3, n4, n5, n6, n7⟩ := NF_fields i3
        have hla : l.nm = runS s := n5 hn
        refine ⟨?_, ?_, NF_of n1 (by simpa using n2) (by simpa using n3) (by simpa using n4) (by simp) (by simpa using n6) (by simpa using n7)⟩
        · rw [List.flatMap_cons, show pieceT l 78 = l.nm from rfl, hla, ← i1, runS_drop]
        · rw [List.all_cons, i2, show okX l 78 = nameS l.nm from rfl, hla, hnm]; rfl
      · cases hs
    by_cases e5 : c = 76
    · subst e5
      have hf := adj_last ha (by simp)
      subst hf
      unfold stepF at hs
      rw [if_neg (by decide), if_neg (by decide), if_neg (by decide), if_neg (by decide), if_pos rfl] at hs
      split at hs
      · rename_i hnm
        simp only [Option.some.injEq, Prod.mk.injEq] at hs
        obtain ⟨rfl, rfl⟩ := hs
        unfold matchF at hm
        rw [if_pos rfl] at hm
        injection hm with hm
        subst hm
        unfold readLitB at hnm
        simp only [Bool.and_eq_true, beq_iff_eq] at hnm
        refine ⟨?_, ?_, NF_of rfl (fun _ => rfl) (fun _ => rfl) (fun _ => rfl) (fun _ => rfl) (fun _ => rfl) (by simp)⟩
        · simp [pieceT, hnm.2]
        · simp [okX, hnm.1]
      · cases hs
    by_cases e6 : c = 73
    · subst e6
      have hn := once_not2 ho (by simp)
      unfold stepF at hs
      rw [if_neg (by decide), if_neg (by decide), if_neg (by decide), if_neg (by decide), if_neg (by decide), if_pos rfl] at hs
      split at hs
      · rename_i hnm
        simp only [Option.some.injEq, Prod.mk.injEq] at hs
        obtain ⟨rfl, rfl⟩ := hs
        obtain ⟨i1, i2, i3⟩ := match_inv f ({ y with cv := readLitV (Lib.cut s [32]).1 }) _ l ho2 ha2 (fun hm => hz (by simp [hm])) hm
        obtain ⟨n1, n2, n3, n4, n5, n6, n7⟩ := NF_fields i3
        have hla : l.cv = readLitV (Lib.cut s [32]).1 := n7 hn.1 hn.2
        unfold readLitB at hnm
        simp only [Bool.and_eq_true, beq_iff_eq, decide_eq_true_eq] at hnm
        refine ⟨?_, ?_, NF_of n1 (by simpa using n2) (by simpa using n3) (by simpa using n4) (by simpa using n5) (by simpa using n6) (by simp)⟩
        · rw [List.flatMap_cons, show pieceT l 73 = (litS l.cv).1 from rfl, hla, hnm.1.2, ← i1, cut_drop]
        · rw [List.all_cons, i2, show okX l 73 = ((litS l.cv).2 && decide (l.cv.k = 3)) from rfl, hla, hnm.1.1, hnm.2]; rfl
      · cases hs
    by_cases e7 : c = 126
    · subst e7
      have hf := adj_last ha (by simp)
      subst hf
      have hza := hz (by simp)
      unfold stepF at hs
      rw [if_neg (by decide), if_neg (by decide), if_neg (by decide), if_neg (by decide), if_neg (by decide), if_neg (by decide), if_pos rfl, hza] at hs
      cases har : argsF (s.length + 1) [] s with
      | none => rw [har] at hs; cases hs
      | some p =>
        obtain ⟨r, t⟩ := p
        rw [har] at hs
        simp only [Option.map_some, Option.some.injEq, Prod.mk.injEq] at hs
        obtain ⟨rfl, rfl⟩ := hs
        obtain ⟨xs, h1, h2, h3⟩ := args_inv _ _ _ _ _ har
        unfold matchF at hm
        split at hm
        · rename_i ht
          injection hm with hm
          subst hm
          rw [List.nil_append] at h1
          subst h1
          refine ⟨?_, ?_, NF_of rfl (fun _ => rfl) (fun _ => rfl) (fun _ => rfl) (fun _ => rfl) (by simp) (fun _ _ => rfl)⟩
          · simp [pieceT, h3, ht]
          · simp only [List.all_cons, List.all_nil, Bool.and_true]; exact h2
        · cases hm
    have hpl : ¬ (c = 65 ∨ c = 66 ∨ c = 67 ∨ c = 78 ∨ c = 76 ∨ c = 73 ∨ c = 126) := by simp [e1, e2, e3, e4, e5, e6, e7]
    rw [stepF_plain _ _ hpl] at hs
    match s, hs with
    | x :: t, hs =>
      simp only at hs
      split at hs
      · rename_i hx
        simp only [Option.some.injEq, Prod.mk.injEq] at hs
        obtain ⟨rfl, rfl⟩ := hs
        obtain ⟨i1, i2, i3⟩ := match_inv f (y) _ l ho2 ha2 (fun hm => hz (by simp [hm])) hm
        refine ⟨?_, ?_, ?_⟩
        · rw [List.flatMap_cons, (plain_piece l hpl).1, ← i1, hx]; rfl
        · rw [List.all_cons, i2, (plain_piece l hpl).2]; rfl
        · rw [NF_plain f l hpl, NF_plain f _ hpl]; exact i3
      · cases hs
/-- What is read is written as it was. -/
theorem rlS_inv {s : Str} {l : Ln} (h : rlS s = some l) : ∃ f, formS l.op = some f ∧ s = f.flatMap (pieceT l) ∧ f.all (okX l) = true ∧ NF f l = Ln.zero l.op := by
  unfold rlS at h
  obtain ⟨p, hp, hm⟩ := List.exists_of_findSome?_eq_some h
  have hf := formS_mem hp
  obtain ⟨h1, h2, h3⟩ := match_inv p.2 (Ln.zero p.1) s l (form_good hf).1 (form_good hf).2 (fun _ => rfl) hm
  have hop : l.op = p.1 := (NF_fields h3).1
  rw [hop]
  refine ⟨p.2, hf, h1, h2, h3.trans ?_⟩
  simp [NF, Ln.zero]
theorem line_back {s : Str} {l : Ln} (h : rlS s = some l) (h8 : l.args.length ≤ 8) : lineT l = s := by
  obtain ⟨f, hf, hs, hk, hz⟩ := rlS_inv h
  rw [lineT_of hf ?_ hz, ← hs]
  rw [List.all_eq_true] at hk ⊢
  intro c hc
  unfold okT
  rw [hk c hc, Bool.true_and]
  split
  · exact decide_eq_true h8
  · rfl
end Go.Proofs.YtdkcdodkhghfhaaGreatDoor
/- Plain: a right program's text is read as the program. -/
namespace Go.Proofs.YtdkcdodkhghfhaaGreatDoor
open Go

def clsLines (c : Cls) : List Str := (wClass ++ spc (c.nm :: c.fields)) :: c.methods.map (fun m => wMethod ++ spc [m.1, m.2])
def fnLines (f : Fn) : List Str := (wFunc ++ spc (f.nm :: f.params)) :: (f.lines.map lineT ++ [wEnd])
def prgLines (p : Prg) : List Str := p.classes.flatMap clsLines ++ p.funcs.flatMap fnLines
def unl (L : List Str) : Str := L.flatMap (· ++ [10])
theorem unl_app (a b : List Str) : unl (a ++ b) = unl a ++ unl b := by simp [unl]
theorem unl_flat {α : Type} (f : α → List Str) (l : List α) : unl (l.flatMap f) = l.flatMap (fun x => unl (f x)) := by
  induction l with
  | nil => rfl
  | cons x l ih => rw [List.flatMap_cons, unl_app, ih, List.flatMap_cons]
theorem clsText_lines (c : Cls) : clsText c = unl (clsLines c) := by
  unfold clsText clsLines
  have : ∀ ms : List (Str × Str), ms.flatMap mText = unl (ms.map (fun m => wMethod ++ spc [m.1, m.2])) := by
    intro ms
    induction ms with
    | nil => rfl
    | cons m ms ih => rw [List.flatMap_cons, ih]; simp [unl, mText, lnText]
  rw [this]
  simp [unl, lnText]
theorem fnText_lines (f : Fn) : fnText f = unl (fnLines f) := by
  unfold fnText fnLines
  have : ∀ ls : List Ln, ls.flatMap lText = unl (ls.map lineT) := by
    intro ls
    induction ls with
    | nil => rfl
    | cons m ms ih => rw [List.flatMap_cons, ih]; simp [unl, lText]
  rw [this]
  simp [unl, lnText]
theorem rawText_lines (p : Prg) : rawText p = unl (prgLines p) := by
  unfold rawText prgLines
  rw [unl_app, unl_flat, unl_flat]
  congr 1
  · exact congrArg (fun g => p.classes.flatMap g) (funext clsText_lines)
  · exact congrArg (fun g => p.funcs.flatMap g) (funext fnText_lines)

/-- Lines read one after the other. -/
def runL : St → List Str → Except Int St
  | st, [] => .ok st
  | st, x :: L => match lineS st x true with
    | .error c => .error c
    | .ok st' => runL st' L
theorem runL_app {a b : List Str} {st s1 s2 : St} (h1 : runL st a = .ok s1) (h2 : runL s1 b = .ok s2) : runL st (a ++ b) = .ok s2 := by
  induction a generalizing st with
  | nil => simp only [runL, Except.ok.injEq] at h1; subst h1; exact h2
  | cons x a ih =>
    simp only [runL, List.cons_append] at h1 ⊢
    cases hl : lineS st x true with
    | error c => rw [hl] at h1; cases h1
    | ok s => rw [hl] at h1; exact ih h1
theorem linesS_run : ∀ (L : List Str) (st st' : St) (k n : Nat) (t : Str), (∀ x ∈ L, 10 ∉ x) → runL st L = .ok st' → (unl L ++ t).length < n → linesS n st k (unl L ++ t) = linesS n st' (k + (unl L).length) t
  | [], st, st', k, n, t, _, h, _ => by
    simp only [runL, Except.ok.injEq] at h
    subst h
    simp [unl]
  | x :: L, st, st', k, n, t, hx, h, hn => by
    obtain ⟨m, rfl⟩ : ∃ m, n = m + 1 := ⟨n - 1, by omega⟩
    have he : unl (x :: L) ++ t = x ++ 10 :: (unl L ++ t) := by simp [unl]
    rw [he] at hn ⊢
    simp only [runL] at h
    cases hl : lineS st x true with
    | error c => rw [hl] at h; cases h
    | ok s1 =>
      rw [hl] at h
      have hc := cut_app 10 x (unl L ++ t) (hx x (by simp))
      have hm : (unl L ++ t).length < m := by simp only [List.length_append, List.length_cons] at hn; rw [List.length_append]; omega
      have ih := linesS_run L s1 st' (k + x.length + 1) m t (fun y hy => hx y (by simp [hy])) h hm
      rw [linesS, if_neg (by simp), hc]
      simp only [hl]
      have hd : (x ++ 10 :: (unl L ++ t)).drop (x.length + 1) = unl L ++ t := by
        rw [show x.length + 1 = (x ++ [10]).length by simp, show x ++ 10 :: (unl L ++ t) = (x ++ [10]) ++ (unl L ++ t) by simp, List.drop_left]
      rw [hd, ih]
      have hul : (unl (x :: L)).length = x.length + 1 + (unl L).length := by simp [unl]; omega
      rw [hul, show k + x.length + 1 + (unl L).length = k + (x.length + 1 + (unl L).length) by omega]
      exact linesS_enough _ _ _ _ _ (by simp only [List.length_append] at hm; omega) (by simp only [List.length_append] at hm; omega)

theorem splitS_app (c : UInt8) (x t : Str) (h : c ∉ x) : splitS c (x ++ c :: t) = x :: splitS c t := by
  induction x with
  | nil => simp [splitS]
  | cons b x ih =>
    simp only [List.mem_cons, not_or] at h
    rw [List.cons_append, splitS, if_neg (Ne.symm h.1), ih h.2]
theorem splitS_one (c : UInt8) (x : Str) (h : c ∉ x) : splitS c x = [x] := by
  induction x with
  | nil => rfl
  | cons b x ih =>
    simp only [List.mem_cons, not_or] at h
    rw [splitS, if_neg (Ne.symm h.1), ih h.2]
theorem name_no {s : Str} (h : nameS s = true) {c : UInt8} (hc : aln c = false) : c ∉ s := fun hm => by
  have := List.all_eq_true.1 (name_aln h).1 c hm
  rw [hc] at this
  cases this
theorem split_spc : ∀ (r : List Str) (x : Str), nameS x = true → r.all nameS = true → splitS 32 (x ++ spc r) = x :: r
  | [], x, hx, _ => by
    rw [show spc [] = ([] : Str) from rfl, List.append_nil]
    exact splitS_one 32 x (name_no hx (by decide))
  | y :: r, x, hx, h => by
    simp only [List.all_cons, Bool.and_eq_true] at h
    rw [show spc (y :: r) = 32 :: (y ++ spc r) from rfl, splitS_app 32 x _ (name_no hx (by decide)), split_spc r y h.1 h.2]
theorem head_cut (w x : Str) (r : List Str) (hw : 32 ∉ w) : Lib.cut (w ++ spc (x :: r)) [32] = (w, x ++ spc r, true) := by
  rw [show spc (x :: r) = 32 :: (x ++ spc r) from rfl]
  exact cut_app 32 w _ hw
theorem namesR_ok {x : Str} {r : List Str} (h : (x :: r).all nameS = true) : splitS 32 (x ++ spc r) = x :: r ∧ namesOk (x ++ spc r) = true := by
  simp only [List.all_cons, Bool.and_eq_true] at h
  have hs := split_spc r x h.1 h.2
  refine ⟨hs, ?_⟩
  unfold namesOk
  rw [hs, List.all_cons, h.1, h.2]
  rfl
theorem class_step {C : List Cls} {c : Cls} {b : Bool} (h : (c.nm :: c.fields).all nameS = true) (h8 : c.fields.length ≤ 8) (hC : C.length < 12) :
    lineS ⟨⟨C, []⟩, false, b⟩ (wClass ++ spc (c.nm :: c.fields)) true = .ok ⟨⟨C ++ [⟨c.nm, c.fields, []⟩], []⟩, false, true⟩ := by
  obtain ⟨hs, hn⟩ := namesR_ok h
  unfold lineS
  rw [if_neg (by simp), if_neg (by simp), head_cut _ _ _ (by decide)]
  simp only
  rw [if_neg (by simp), if_pos (by decide)]
  unfold classS
  rw [if_neg (by simp), if_neg (by rw [hn]; simp), hs, if_pos ⟨hC, by simp only [List.length_cons]; omega⟩]
  rfl
theorem method_step {C : List Cls} {c : Cls} {ms : List (Str × Str)} {m : Str × Str} (h : mOk m = true) (h8 : ms.length < 8) :
    lineS ⟨⟨C ++ [⟨c.nm, c.fields, ms⟩], []⟩, false, true⟩ (wMethod ++ spc [m.1, m.2]) true = .ok ⟨⟨C ++ [⟨c.nm, c.fields, ms ++ [m]⟩], []⟩, false, true⟩ := by
  obtain ⟨hs, hn⟩ := namesR_ok (x := m.1) (r := [m.2]) h
  unfold lineS
  rw [if_neg (by simp), if_neg (by simp), head_cut _ _ _ (by decide)]
  simp only
  rw [if_neg (by simp), if_neg (by decide), if_pos (by decide)]
  unfold methodS
  rw [if_neg (by simp), if_neg (by rw [hn]; simp), hs]
  simp only
  rw [List.getLast?_append]
  simp [h8]
theorem func_step {C : List Cls} {F : List Fn} {f : Fn} {b : Bool} (h : (f.nm :: f.params).all nameS = true) (h8 : f.params.length ≤ 8) (hF : F.length < 24) :
    lineS ⟨⟨C, F⟩, false, b⟩ (wFunc ++ spc (f.nm :: f.params)) true = .ok ⟨⟨C, F ++ [⟨f.nm, f.params, []⟩]⟩, true, false⟩ := by
  obtain ⟨hs, hn⟩ := namesR_ok h
  unfold lineS
  rw [if_neg (by simp), if_neg (by simp), head_cut _ _ _ (by decide)]
  simp only
  rw [if_neg (by simp), if_neg (by decide), if_neg (by decide), if_pos (by decide)]
  unfold funcS
  rw [if_neg (by simp), if_neg (by rw [hn]; simp), hs, if_pos ⟨hF, by simp only [List.length_cons]; omega⟩]
  rfl
theorem end_no : rlS wEnd = none := by decide +kernel
theorem lineT_args {l : Ln} (h : lineT l ≠ []) : l.args.length ≤ 8 := by
  obtain ⟨f, hf, hk, hz, _⟩ := lineT_right h
  by_cases hm : 126 ∈ f
  · have := List.all_eq_true.1 hk _ hm
    unfold okT at this
    simp only [Bool.and_eq_true] at this
    simpa using this.2
  · have : (NF f l).args = l.args := by simp [NF, hm]
    rw [hz] at this
    have : l.args = [] := this.symm
    rw [this]
    simp
theorem body_step {C : List Cls} {F : List Fn} {f : Fn} {ls : List Ln} {l : Ln} (h : lineT l ≠ []) (h60 : ls.length < 60) :
    lineS ⟨⟨C, F ++ [⟨f.nm, f.params, ls⟩]⟩, true, false⟩ (lineT l) true = .ok ⟨⟨C, F ++ [⟨f.nm, f.params, ls ++ [l]⟩]⟩, true, false⟩ := by
  have hr := line_round h
  have hne : lineT l ≠ wEnd := fun e => by rw [e, end_no] at hr; cases hr
  unfold lineS
  rw [if_neg (by simp), if_pos rfl]
  unfold bodyS
  rw [if_neg (by exact hne), hr]
  simp only
  rw [List.getLast?_append]
  simp [lineT_args h, h60]
theorem end_step {C : List Cls} {F : List Fn} : lineS ⟨⟨C, F⟩, true, false⟩ wEnd true = .ok ⟨⟨C, F⟩, false, false⟩ := by
  unfold lineS
  rw [if_neg (by simp), if_pos rfl]
  unfold bodyS
  rw [if_pos (by decide)]
theorem methods_run {C : List Cls} {c : Cls} : ∀ (ms done : List (Str × Str)), ms.all mOk = true → done.length + ms.length ≤ 8 →
    runL ⟨⟨C ++ [⟨c.nm, c.fields, done⟩], []⟩, false, true⟩ (ms.map (fun m => wMethod ++ spc [m.1, m.2])) = .ok ⟨⟨C ++ [⟨c.nm, c.fields, done ++ ms⟩], []⟩, false, true⟩
  | [], done, _, _ => by simp [runL]
  | m :: ms, done, h, h8 => by
    simp only [List.all_cons, Bool.and_eq_true] at h
    simp only [List.length_cons] at h8
    simp only [List.map_cons, runL]
    rw [method_step h.1 (by omega)]
    simp only
    rw [methods_run ms (done ++ [m]) h.2 (by simp only [List.length_append, List.length_singleton]; omega)]
    simp
theorem class_run {C : List Cls} {c : Cls} {b : Bool} (h : clsOk c = true) (hC : C.length < 12) : runL ⟨⟨C, []⟩, false, b⟩ (clsLines c) = .ok ⟨⟨C ++ [c], []⟩, false, true⟩ := by
  unfold clsOk at h
  simp only [Bool.and_eq_true, decide_eq_true_eq] at h
  obtain ⟨⟨⟨h1, h2⟩, h3⟩, h4⟩ := h
  unfold clsLines
  simp only [runL]
  rw [class_step h3 h1 hC]
  simp only
  rw [methods_run c.methods [] h4 (by simpa using h2)]
  simp
theorem classes_run : ∀ (cs C : List Cls) (b : Bool), cs.all clsOk = true → C.length + cs.length ≤ 12 → ∃ b', runL ⟨⟨C, []⟩, false, b⟩ (cs.flatMap clsLines) = .ok ⟨⟨C ++ cs, []⟩, false, b'⟩
  | [], C, b, _, _ => ⟨b, by simp [runL]⟩
  | c :: cs, C, b, h, h12 => by
    simp only [List.all_cons, Bool.and_eq_true] at h
    simp only [List.length_cons] at h12
    obtain ⟨b', ih⟩ := classes_run cs (C ++ [c]) true h.2 (by simp only [List.length_append, List.length_singleton]; omega)
    refine ⟨b', ?_⟩
    rw [List.flatMap_cons]
    refine (runL_app (class_run h.1 (by omega)) ih).trans ?_
    simp
theorem body_run {C : List Cls} {F : List Fn} {f : Fn} : ∀ (ls done : List Ln), ls.all lOk = true → done.length + ls.length ≤ 60 →
    runL ⟨⟨C, F ++ [⟨f.nm, f.params, done⟩]⟩, true, false⟩ (ls.map lineT) = .ok ⟨⟨C, F ++ [⟨f.nm, f.params, done ++ ls⟩]⟩, true, false⟩
  | [], done, _, _ => by simp [runL]
  | l :: ls, done, h, h60 => by
    simp only [List.all_cons, Bool.and_eq_true, lOk, decide_eq_true_eq] at h
    simp only [List.length_cons] at h60
    simp only [List.map_cons, runL]
    rw [body_step h.1 (by omega)]
    simp only
    rw [body_run ls (done ++ [l]) h.2 (by simp only [List.length_append, List.length_singleton]; omega)]
    simp
theorem func_run {C : List Cls} {F : List Fn} {f : Fn} {b : Bool} (h : fnOk f = true) (hF : F.length < 24) : runL ⟨⟨C, F⟩, false, b⟩ (fnLines f) = .ok ⟨⟨C, F ++ [f]⟩, false, false⟩ := by
  unfold fnOk at h
  simp only [Bool.and_eq_true, decide_eq_true_eq] at h
  obtain ⟨⟨⟨h1, h2⟩, h3⟩, h4⟩ := h
  unfold fnLines
  simp only [runL]
  rw [func_step h3 h1 hF]
  simp only
  refine runL_app (body_run f.lines [] h4 (by simpa using h2)) ?_
  simp only [runL, List.nil_append]
  rw [end_step]
theorem funcs_run {C : List Cls} : ∀ (fs F : List Fn) (b : Bool), fs.all fnOk = true → F.length + fs.length ≤ 24 → ∃ b', runL ⟨⟨C, F⟩, false, b⟩ (fs.flatMap fnLines) = .ok ⟨⟨C, F ++ fs⟩, false, b'⟩
  | [], F, b, _, _ => ⟨b, by simp [runL]⟩
  | f :: fs, F, b, h, h24 => by
    simp only [List.all_cons, Bool.and_eq_true] at h
    simp only [List.length_cons] at h24
    obtain ⟨b', ih⟩ := funcs_run fs (F ++ [f]) false h.2 (by simp only [List.length_append, List.length_singleton]; omega)
    refine ⟨b', ?_⟩
    rw [List.flatMap_cons]
    refine (runL_app (func_run h.1 (by omega)) ih).trans ?_
    simp
theorem prt_no {s : Str} (h : prt s = true) : 10 ∉ s := fun hm => by
  have := List.all_eq_true.1 h 10 hm
  revert this
  decide
theorem forms_prt : formsL.all (fun p => prt p.2) = true := by decide +kernel
theorem line_prt {l : Ln} (h : lineT l ≠ []) : prt (lineT l) = true := by
  obtain ⟨f, hf, hk, hz, ht⟩ := lineT_right h
  have hk2 := okT_okX hk
  clear hk
  have hk := hk2
  clear hk2
  have hp := List.all_eq_true.1 forms_prt _ (formS_some hf)
  simp only at hp
  rw [ht]
  clear ht hf hz
  induction f with
  | nil => rfl
  | cons c f ih =>
    simp only [List.all_cons, Bool.and_eq_true] at hk
    unfold prt at hp
    simp only [List.all_cons, Bool.and_eq_true] at hp
    rw [List.flatMap_cons, prt_app, ih hk.2 hp.2, Bool.and_true]
    have h1 := hk.1
    unfold okX at h1
    unfold pieceT
    split
    · rename_i e; rw [if_pos e] at h1; exact name_prt h1
    · rename_i e1
      rw [if_neg e1] at h1
      split
      · rename_i e; rw [if_pos e] at h1; exact name_prt h1
      · rename_i e2
        rw [if_neg e2] at h1
        split
        · rename_i e; rw [if_pos e] at h1; exact name_prt h1
        · rename_i e3
          rw [if_neg e3] at h1
          split
          · rename_i e; rw [if_pos e] at h1; exact name_prt h1
          · rename_i e4
            rw [if_neg e4] at h1
            split
            · rename_i e; rw [if_pos e] at h1; exact lit_prt _ h1
            · rename_i e5
              rw [if_neg e5] at h1
              split
              · rename_i e
                rw [if_pos e] at h1
                simp only [Bool.and_eq_true] at h1
                exact lit_prt _ h1.1
              · rename_i e6
                rw [if_neg e6] at h1
                split
                · rename_i e; rw [if_pos e] at h1; exact spc_prt _ h1
                · unfold prt
                  simp only [List.all_cons, List.all_nil, Bool.and_true]
                  exact hp.1
theorem prg_prt {p : Prg} (h : prgOk p = true) : ∀ x ∈ prgLines p, prt x = true := by
  unfold prgOk at h
  simp only [Bool.and_eq_true] at h
  have hd : ∀ (w : Str) (l : List Str), prt w = true → l.all nameS = true → prt (w ++ spc l) = true := fun w l h1 h2 => by rw [prt_app, h1, spc_prt l h2]; rfl
  intro x hx
  unfold prgLines at hx
  rcases List.mem_append.1 hx with hx | hx
  · obtain ⟨c, hc, hx⟩ := List.mem_flatMap.1 hx
    have hk := List.all_eq_true.1 h.1.2 c hc
    unfold clsOk at hk
    simp only [Bool.and_eq_true] at hk
    unfold clsLines at hx
    rcases List.mem_cons.1 hx with rfl | hx
    · exact hd _ _ (by decide) hk.1.2
    · obtain ⟨m, hm, rfl⟩ := List.mem_map.1 hx
      exact hd _ _ (by decide) (List.all_eq_true.1 hk.2 m hm)
  · obtain ⟨f, hf, hx⟩ := List.mem_flatMap.1 hx
    have hk := List.all_eq_true.1 h.2 f hf
    unfold fnOk at hk
    simp only [Bool.and_eq_true] at hk
    unfold fnLines at hx
    rcases List.mem_cons.1 hx with rfl | hx
    · exact hd _ _ (by decide) hk.1.2
    · rcases List.mem_append.1 hx with hx | hx
      · obtain ⟨l, hl, rfl⟩ := List.mem_map.1 hx
        have := List.all_eq_true.1 hk.2 l hl
        exact line_prt (by simpa [lOk] using this)
      · simp only [List.mem_singleton] at hx
        subst hx
        decide
/-- A right program's text is read as the program. -/
theorem parse_print {p : Prg} (h : prgOk p = true) (h8 : (rawText p).length ≤ 8000) : parseS (rawText p) = (p, 0, 0) := by
  have hx : ∀ x ∈ prgLines p, 10 ∉ x := fun x hx => prt_no (prg_prt h x hx)
  have hk := h
  unfold prgOk at hk
  simp only [Bool.and_eq_true, decide_eq_true_eq] at hk
  obtain ⟨b1, r1⟩ := classes_run p.classes [] false hk.1.2 (by simpa using hk.1.1.1)
  obtain ⟨b2, r2⟩ := funcs_run (C := p.classes) p.funcs [] b1 hk.2 (by simpa using hk.1.1.2)
  have hr : runL ⟨⟨[], []⟩, false, false⟩ (prgLines p) = .ok ⟨p, false, b2⟩ := by
    unfold prgLines
    exact runL_app r1 (by simpa using r2)
  have hl := linesS_run (prgLines p) _ _ 0 ((unl (prgLines p)).length + 1) [] hx hr (by simp)
  rw [List.append_nil] at hl
  unfold parseS
  rw [if_neg (by omega), rawText_lines, hl]
  simp [linesS]
end Go.Proofs.YtdkcdodkhghfhaaGreatDoor
