/- A line of text is read by one form at the most. -/
import Derived.Test.YtdkcdodkhghfhaaGreatDoorRL2
namespace Go.Proofs.YtdkcdodkhghfhaaGreatDoor
open Go.RowKit

theorem decDigits_head : ∀ (n u : Nat), u ≤ n → ∃ c t, Lib.decDigits u = c :: t ∧ 48 ≤ c ∧ c ≤ 57 := by
  intro n
  induction n with
  | zero =>
    intro u hu
    refine ⟨48, [], ?_, by decide, by decide⟩
    rw [Lib.decDigits, dif_pos (by omega), show u = 0 from by omega]
    rfl
  | succ n ih =>
    intro u hu
    rw [Lib.decDigits]
    by_cases h : u < 10
    · rw [dif_pos h]
      refine ⟨_, [], rfl, ?_, ?_⟩
      · rw [UInt8.le_iff_toNat_le]; simp; omega
      · rw [UInt8.le_iff_toNat_le]; simp; omega
    · rw [dif_neg h]
      obtain ⟨c, t, e, h1, h2⟩ := ih (u / 10) (by omega)
      exact ⟨c, t ++ _, by rw [e]; rfl, h1, h2⟩
theorem itoa_head (n : Int) : ∃ c t, Lib.itoa n = c :: t ∧ (c = 45 ∨ (48 ≤ c ∧ c ≤ 57)) := by
  unfold Lib.itoa
  split
  · exact ⟨_, _, rfl, .inl rfl⟩
  · obtain ⟨c, t, e, h⟩ := decDigits_head _ n.toNat (Nat.le_refl _)
    exact ⟨c, t, e, .inr h⟩
/-- How the text of a constant begins. -/
theorem lit_head {s : Str} (h : readLitB s = true) : s = [110, 105, 108] ∨ s = [116, 114, 117, 101] ∨ s = [102, 97, 108, 115, 101] ∨ ∃ c t, s = c :: t ∧ (c = 39 ∨ c = 45 ∨ (48 ≤ c ∧ c ≤ 57)) := by
  have h2 : (litS (readLitV s)).1 = s := by
    unfold readLitB at h
    simp only [Bool.and_eq_true, beq_iff_eq] at h
    exact h.2
  generalize readLitV s = x at h2
  unfold litS at h2
  split at h2
  · exact .inl h2.symm
  · split at h2
    · exact .inr (.inr (.inl h2.symm))
    · split at h2
      · exact .inr (.inl h2.symm)
      · refine .inr (.inr (.inr ?_))
        split at h2
        · obtain ⟨c, t, e, h⟩ := itoa_head x.n
          exact ⟨c, t, by rw [← e]; exact h2.symm, .inr h⟩
        · exact ⟨39, _, h2.symm, .inl rfl⟩
theorem lit_nil : readLitB [] = false := by
  cases h : readLitB [] with
  | false => rfl
  | true => rcases lit_head h with h | h | h | ⟨c, t, h, _⟩ <;> cases h
theorem lit_no_name {s : Str} (h : readLitB s = true) : nameS (runS s) = false := by
  rcases lit_head h with h | h | h | ⟨c, t, h, hc⟩
  · subst h; decide +kernel
  · subst h; decide +kernel
  · subst h; decide +kernel
  · subst h
    unfold runS
    rw [List.takeWhile_cons]
    split
    · rename_i ha
      have : c ≤ 57 := by
        rcases hc with hc | hc | hc
        · subst hc; exact absurd ha (by decide)
        · subst hc; exact absurd ha (by decide)
        · exact hc.2
      simp [nameS, this]
    · rfl
/-- A small letter begins a constant only in three words. -/
theorem lit_word {s : Str} (h : readLitB s = true) {c : UInt8} {t : Str} (hs : s = c :: t) (hc : 97 ≤ c) : s = [110, 105, 108] ∨ s = [116, 114, 117, 101] ∨ s = [102, 97, 108, 115, 101] := by
  rcases lit_head h with h | h | h | ⟨d, t', h, hd⟩
  · exact .inl h
  · exact .inr (.inl h)
  · exact .inr (.inr h)
  · exfalso
    rw [h] at hs
    injection hs with e _
    subst e
    rcases hd with hd | hd | hd
    · subst hd; exact absurd hc (by decide)
    · subst hd; exact absurd hc (by decide)
    · exact absurd (UInt8.le_trans hc hd.2) (by decide)

def nm (c : UInt8) : Bool := c == 65 || c == 66 || c == 67 || c == 78
def low (c : UInt8) : Bool := 97 ≤ c && c ≤ 122
def plain (c : UInt8) : Bool := !(nm c) && c != 76 && c != 73 && c != 126
def wordOf (f : Str) : Str := f.takeWhile low
def endsW (f : Str) : Bool := match f.dropWhile low with | [] => true | c :: _ => c == 32
/-- A form that begins so begins no name. -/
def blocks (g : Str) : Bool := match g with
  | [] => true
  | d :: _ => d == 76 || (low d && resS (wordOf g) && endsW g) || (plain d && !(aln d))
def litNo (g : Str) : Bool := match g with
  | [] => true
  | d :: _ => low d && endsW g && !([[110, 105, 108], [116, 114, 117, 101], [102, 97, 108, 115, 101]].contains (wordOf g))
def disj : Nat → Str → Str → Bool
  | 0, _, _ => false
  | n + 1, f, g => match f, g with
    | [], [] => false
    | [], d :: _ => d != 126 && d != 73
    | c :: _, [] => c != 126 && c != 73
    | c :: f', d :: g' =>
      if nm c && nm d then disj n f' g'
      else if nm c then blocks (d :: g')
      else if nm d then blocks (c :: f')
      else if c == 76 then litNo (d :: g')
      else if d == 76 then litNo (c :: f')
      else if plain c && plain d then (if c == d then disj n f' g' else true)
      else false

theorem step_nm {c : UInt8} {l l1 : Ln} {s s1 : Str} (hc : nm c = true) (h : stepF c l s = some (l1, s1)) : nameS (runS s) = true ∧ s1 = s.drop (runS s).length := by
  unfold nm at hc
  simp only [Bool.or_eq_true, beq_iff_eq] at hc
  unfold stepF at h
  rcases hc with ((hc | hc) | hc) | hc <;> subst hc <;> simp at h <;> exact ⟨h.1, h.2.2.symm⟩
theorem step_lit {l l1 : Ln} {s s1 : Str} (h : stepF 76 l s = some (l1, s1)) : readLitB s = true := by
  unfold stepF at h
  simp at h
  exact h.1
theorem step_plain {c : UInt8} {l l1 : Ln} {s s1 : Str} (hc : plain c = true) (h : stepF c l s = some (l1, s1)) : s = c :: s1 ∧ l1 = l := by
  unfold plain nm at hc
  simp at hc
  unfold stepF at h
  simp [hc] at h
  cases s with
  | nil => simp at h
  | cons x t =>
    simp at h
    obtain ⟨rfl, rfl, rfl⟩ := h
    exact ⟨rfl, rfl⟩
theorem low_plain {c : UInt8} (h : low c = true) : plain c = true := by
  have ne : ∀ d : UInt8, low d = false → c ≠ d := fun d hd e => by subst e; rw [h] at hd; cases hd
  simp [plain, nm, ne 65 rfl, ne 66 rfl, ne 67 rfl, ne 78 rfl, ne 76 rfl, ne 73 rfl, ne 126 rfl]
theorem low_aln {c : UInt8} (h : low c = true) : aln c = true := by
  unfold low at h
  unfold aln
  rw [h]
  rfl
/-- What a form says that begins with a word. -/
theorem word_run : ∀ (g : Str) (l : Ln) (s : Str) (r : Ln), matchF g l s = some r → endsW g = true → runS s = wordOf g ∧ ∃ t, s = wordOf g ++ t := by
  intro g
  induction g with
  | nil =>
    intro l s r h _
    unfold matchF at h
    split at h
    · rename_i hs; subst hs; exact ⟨rfl, [], rfl⟩
    · cases h
  | cons c f ih =>
    intro l s r h he
    unfold matchF at h
    cases hl : low c with
    | true =>
      cases hst : stepF c l s with
      | none => rw [hst] at h; cases h
      | some p =>
        rw [hst] at h
        obtain ⟨hs, _⟩ := step_plain (low_plain hl) hst
        have he' : endsW f = true := by
          unfold endsW at he
          rw [List.dropWhile_cons_of_pos hl] at he
          exact he
        obtain ⟨h1, t, h2⟩ := ih p.1 p.2 r h he'
        rw [hs]
        unfold wordOf runS at *
        rw [List.takeWhile_cons_of_pos hl, List.takeWhile_cons_of_pos (low_aln hl), h1]
        exact ⟨rfl, t, by rw [List.cons_append, ← h2]⟩
    | false =>
      have hc : c = 32 := by
        unfold endsW at he
        rw [List.dropWhile_cons_of_neg (by simp [hl])] at he
        simpa using he
      subst hc
      cases hst : stepF 32 l s with
      | none => rw [hst] at h; cases h
      | some p =>
        obtain ⟨hs, _⟩ := step_plain (by decide) hst
        rw [hs]
        exact ⟨rfl, _, rfl⟩
theorem blocks_ok {g : Str} {l : Ln} {s : Str} {r : Ln} (hm : matchF g l s = some r) (hb : blocks g = true) : nameS (runS s) = false := by
  cases g with
  | nil =>
    unfold matchF at hm
    split at hm
    · rename_i hs; subst hs; rfl
    · cases hm
  | cons d f =>
    simp only [blocks, Bool.or_eq_true, Bool.and_eq_true, beq_iff_eq] at hb
    rcases hb with (hb | ⟨⟨h1, h2⟩, h3⟩) | ⟨h1, h2⟩
    · subst hb
      unfold matchF at hm
      cases hst : stepF 76 l s with
      | none => rw [hst] at hm; cases hm
      | some p => exact lit_no_name (step_lit hst)
    · rw [(word_run _ _ _ _ hm h3).1]
      unfold nameS
      split
      · rfl
      · rw [h2]
        simp
    · unfold matchF at hm
      cases hst : stepF d l s with
      | none => rw [hst] at hm; cases hm
      | some p =>
        obtain ⟨hs, _⟩ := step_plain h1 hst
        rw [hs]
        unfold runS
        rw [List.takeWhile_cons_of_neg (by simpa using h2)]
        rfl
theorem litNo_ok {g : Str} {l : Ln} {s : Str} {r : Ln} (hm : matchF g l s = some r) (hb : litNo g = true) : readLitB s = false := by
  cases h : readLitB s with
  | false => rfl
  | true =>
    exfalso
    cases g with
    | nil =>
      unfold matchF at hm
      split at hm
      · rename_i hs; subst hs; rw [lit_nil] at h; cases h
      · cases hm
    | cons d f =>
      simp only [litNo, Bool.and_eq_true] at hb
      obtain ⟨⟨h1, h2⟩, h3⟩ := hb
      have hw := word_run _ _ _ _ hm h2
      obtain ⟨t, ht⟩ := hw.2
      have hd : s = d :: (wordOf f ++ t) := by
        rw [ht]
        unfold wordOf
        rw [List.takeWhile_cons_of_pos h1]
        rfl
      have h97 : 97 ≤ d := by
        unfold low at h1
        simp at h1
        exact h1.1
      have hr := hw.1
      rcases lit_word h hd h97 with e | e | e
      · rw [e, show runS [110, 105, 108] = [110, 105, 108] from by decide +kernel] at hr; rw [← hr] at h3; exact absurd h3 (by decide +kernel)
      · rw [e, show runS [116, 114, 117, 101] = [116, 114, 117, 101] from by decide +kernel] at hr; rw [← hr] at h3; exact absurd h3 (by decide +kernel)
      · rw [e, show runS [102, 97, 108, 115, 101] = [102, 97, 108, 115, 101] from by decide +kernel] at hr; rw [← hr] at h3; exact absurd h3 (by decide +kernel)
theorem step_some {c : UInt8} {f : Str} {l : Ln} {s : Str} {r : Ln} (h : matchF (c :: f) l s = some r) : ∃ p, stepF c l s = some p ∧ matchF f p.1 p.2 = some r := by
  unfold matchF at h
  cases hst : stepF c l s with
  | none => rw [hst] at h; cases h
  | some p => rw [hst] at h; exact ⟨p, rfl, h⟩
theorem step_nil {c : UInt8} {l : Ln} {p : Ln × Str} (h : stepF c l [] = some p) : c = 126 ∨ c = 73 := by
  cases hn : nm c with
  | true => have := (step_nm hn h).1; cases this
  | false =>
    by_cases h76 : c = 76
    · subst h76; have := step_lit h; rw [lit_nil] at this; cases this
    · by_cases h1 : c = 73
      · exact .inr h1
      · by_cases h2 : c = 126
        · exact .inl h2
        · have := (step_plain (by simp [plain, hn, h76, h1, h2]) h).1
          cases this
theorem nil_some {l : Ln} {s : Str} {r : Ln} (h : matchF [] l s = some r) : s = [] := by
  unfold matchF at h
  split at h
  · assumption
  · cases h
theorem disj_ok : ∀ (n : Nat) (f g : Str) (l l' : Ln) (s : Str) (r r' : Ln), disj n f g = true → matchF f l s = some r → matchF g l' s = some r' → False := by
  intro n
  induction n with
  | zero => intro f g l l' s r r' h; cases h
  | succ n ih =>
    intro f g l l' s r r' h hf hg
    cases f with
    | nil =>
      cases g with
      | nil => cases h
      | cons d g =>
        rw [nil_some hf] at hg
        obtain ⟨p, hp, _⟩ := step_some hg
        simp [disj] at h
        rcases step_nil hp with e | e
        · exact h.1 e
        · exact h.2 e
    | cons c f =>
      cases g with
      | nil =>
        rw [nil_some hg] at hf
        obtain ⟨p, hp, _⟩ := step_some hf
        simp [disj] at h
        rcases step_nil hp with e | e
        · exact h.1 e
        · exact h.2 e
      | cons d g =>
        obtain ⟨p, hp, hpf⟩ := step_some hf
        obtain ⟨q, hq, hqg⟩ := step_some hg
        simp only [disj] at h
        split at h
        · rename_i hcd
          simp only [Bool.and_eq_true] at hcd
          have e1 := (step_nm hcd.1 hp).2
          have e2 := (step_nm hcd.2 hq).2
          rw [e1] at hpf
          rw [e2] at hqg
          exact ih _ _ _ _ _ _ _ h hpf hqg
        · split at h
          · rename_i hc
            have := (step_nm hc hp).1
            rw [blocks_ok hg h] at this
            cases this
          · split at h
            · rename_i hd
              have := (step_nm hd hq).1
              rw [blocks_ok hf h] at this
              cases this
            · split at h
              · rename_i hc
                have hc : c = 76 := by simpa using hc
                subst hc
                have := step_lit hp
                rw [litNo_ok hg h] at this
                cases this
              · split at h
                · rename_i hd
                  have hd : d = 76 := by simpa using hd
                  subst hd
                  have := step_lit hq
                  rw [litNo_ok hf h] at this
                  cases this
                · split at h
                  · rename_i hcd
                    simp only [Bool.and_eq_true] at hcd
                    have e1 := (step_plain hcd.1 hp).1
                    have e2 := (step_plain hcd.2 hq).1
                    rw [e1] at e2
                    injection e2 with e3 e4
                    subst e3
                    simp at h
                    rw [← e4] at hqg
                    exact ih _ _ _ _ _ _ _ h hpf hqg
                  · cases h
theorem forms_disj : formsL.all (fun p => formsL.all fun q => p == q || disj 30 p.2 q.2) = true := by decide +kernel
/-- The line that a text is. -/
def rlS (s : Str) : Option Ln := formsL.findSome? fun p => matchF p.2 (Ln.zero p.1) s
theorem form_unique {s : Str} {p q : Int × Str} (hp : p ∈ formsL) (hq : q ∈ formsL) {l l' : Ln} (h : matchF p.2 (Ln.zero p.1) s = some l) (h' : matchF q.2 (Ln.zero q.1) s = some l') : p = q := by
  have h1 := List.all_eq_true.1 (List.all_eq_true.1 forms_disj p hp) q hq
  simp only [Bool.or_eq_true, beq_iff_eq] at h1
  rcases h1 with h1 | h1
  · exact h1
  · exact (disj_ok _ _ _ _ _ _ _ _ h1 h h').elim
theorem RL.eq {s : Str} {r : Option Ln} (h : RL s r) : r = rlS s := by
  rcases h with ⟨p, hp, l, hm, rfl⟩ | ⟨hn, rfl⟩
  · cases hr : rlS s with
    | none =>
      unfold rlS at hr
      rw [List.findSome?_eq_none_iff] at hr
      rw [hr p hp] at hm
      cases hm
    | some l' =>
      obtain ⟨q, hq, hq'⟩ := List.exists_of_findSome?_eq_some hr
      have := form_unique hp hq hm hq'
      subst this
      rw [hm] at hq'
      exact hq'
  · unfold rlS
    exact (List.findSome?_eq_none_iff.2 hn).symm
theorem RL8.eq {s : Str} {r : Option Ln} (h : RL8 s r) : r = (rlS s).bind fun l => if l.args.length ≤ 8 then some l else none := by
  obtain ⟨r0, h0, rfl⟩ := h
  rw [h0.eq]
end Go.Proofs.YtdkcdodkhghfhaaGreatDoor
