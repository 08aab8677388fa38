/-
  Plain laws of cores (lists of pieces): no program in sight.
  Conditions: none.
-/
namespace Go.Proofs.Ytbfcfhngfenpjaa.Co
abbrev Pc := Int × Int
/-- valid from a depth on -/
def vF : Int → List Pc → Bool
  | _, [] => true
  | last, p :: r => decide (last ≤ p.1 ∧ p.1 < p.2 ∧ p.2 ≤ 30000) && vF p.2 r
def vB (L : List Pc) : Bool := vF 0 L && decide (L.length ≤ 20)
def ln : List Pc → Int
  | [] => 0
  | p :: r => (p.2 - p.1) + ln r
def hasB (d : Int) (p : Pc) : Bool := decide (p.1 ≤ d ∧ d < p.2)
def anyB (d : Int) (L : List Pc) : Bool := L.any (hasB d)
/-- the first index from i on -/
def ix (d : Int) : Nat → List Pc → Int
  | _, [] => -1
  | i, p :: r => if hasB d p then (i : Int) else ix d (i + 1) r
def gF : Int → List Pc → List Pc
  | _, [] => []
  | last, p :: r => if last < p.1 then (last, p.1) :: gF p.2 r else gF p.2 r
def gaps : List Pc → List Pc
  | [] => []
  | p :: r => gF p.2 r
def jF : Pc → List Pc → List Pc
  | q, [] => [q]
  | q, p :: r => if q.2 = p.1 then jF (q.1, p.2) r else q :: jF p r
def join : List Pc → List Pc
  | [] => []
  | p :: r => jF p r
def btw (top bottom : Int) : List Pc → List Pc
  | [] => []
  | p :: r => if max p.1 top < min p.2 bottom then (max p.1 top, min p.2 bottom) :: btw top bottom r else btw top bottom r
def lastB : Int → List Pc → Int
  | b, [] => b
  | _, p :: r => lastB p.2 r

theorem vF_cons {last : Int} {p : Pc} {r : List Pc} : vF last (p :: r) = true ↔ last ≤ p.1 ∧ p.1 < p.2 ∧ p.2 ≤ 30000 ∧ vF p.2 r = true := by
  simp [vF, and_assoc]
theorem vF_mono : ∀ {L : List Pc} {a b : Int}, b ≤ a → vF a L = true → vF b L = true := by
  intro L a b h
  cases L with
  | nil => intro _; rfl
  | cons p r => intro h2; rw [vF_cons] at h2 ⊢; exact ⟨by omega, h2.2⟩
theorem vF_take : ∀ {L : List Pc} {a : Int} (k : Nat), vF a L = true → vF a (L.take k) = true := by
  intro L
  induction L with
  | nil => intro a k _; simp [vF]
  | cons p r ih =>
    intro a k h
    cases k with
    | zero => rfl
    | succ k => rw [List.take_succ_cons, vF_cons]; rw [vF_cons] at h; exact ⟨h.1, h.2.1, h.2.2.1, ih k h.2.2.2⟩
theorem vF_drop : ∀ {L : List Pc} {a : Int} (k : Nat), vF a L = true → vF a (L.drop k) = true := by
  intro L
  induction L with
  | nil => intro a k _; simp [vF]
  | cons p r ih =>
    intro a k h
    cases k with
    | zero => exact h
    | succ k =>
      rw [List.drop_succ_cons]
      rw [vF_cons] at h
      exact vF_mono (by omega) (ih k h.2.2.2)
theorem vB_iff {L : List Pc} : vB L = true ↔ vF 0 L = true ∧ L.length ≤ 20 := by simp [vB]
theorem vB_take {L : List Pc} (k : Nat) (h : vB L = true) : vB (L.take k) = true := by
  rw [vB_iff] at h ⊢
  exact ⟨vF_take k h.1, by rw [List.length_take]; omega⟩
theorem vB_drop {L : List Pc} (k : Nat) (h : vB L = true) : vB (L.drop k) = true := by
  rw [vB_iff] at h ⊢
  exact ⟨vF_drop k h.1, by rw [List.length_drop]; omega⟩
theorem ln_append : ∀ (A B : List Pc), ln (A ++ B) = ln A + ln B := by
  intro A B
  induction A with
  | nil => simp [ln]
  | cons p r ih => simp [ln, ih]; omega
theorem ln_split (L : List Pc) (k : Nat) : ln (L.take k) + ln (L.drop k) = ln L := by
  rw [← ln_append, List.take_append_drop]
theorem ln_ge : ∀ {L : List Pc} {a : Int}, vF a L = true → (L.length : Int) ≤ ln L := by
  intro L
  induction L with
  | nil => intro a _; simp [ln]
  | cons p r ih => intro a h; rw [vF_cons] at h; have := ih h.2.2.2; simp [ln]; omega
theorem ln_le : ∀ {L : List Pc} {a : Int}, vF a L = true → ln L ≤ 30000 - a ∨ L = [] := by
  intro L
  induction L with
  | nil => intro a _; exact .inr rfl
  | cons p r ih =>
    intro a h
    rw [vF_cons] at h
    left
    rcases ih h.2.2.2 with h1 | h1
    · simp [ln]; omega
    · subst h1; simp [ln]; omega
/-- P30: a piece twice is no core -/
theorem vF_twice : ∀ {L : List Pc} {a : Int} {p : Pc}, vF a (L ++ [p, p]) = false := by
  intro L
  induction L with
  | nil =>
    intro a p
    rw [Bool.eq_false_iff]
    intro h
    rw [List.nil_append, vF_cons, vF_cons] at h
    omega
  | cons q r ih =>
    intro a p
    rw [Bool.eq_false_iff]
    intro h
    rw [List.cons_append, vF_cons, ih] at h
    simp at h
theorem ix_ge : ∀ (L : List Pc) (d : Int) (i : Nat), ix d i L = -1 ∨ (i : Int) ≤ ix d i L := by
  intro L
  induction L with
  | nil => intro d i; left; rfl
  | cons p r ih =>
    intro d i
    unfold ix
    split
    · right; omega
    · have := ih d (i + 1); omega
theorem ix_lt : ∀ (L : List Pc) (d : Int) (i : Nat), ix d i L < i + L.length := by
  intro L
  induction L with
  | nil => intro d i; simp [ix]; omega
  | cons p r ih =>
    intro d i
    unfold ix
    split
    · simp; omega
    · have := ih d (i + 1); simp at this ⊢; omega
theorem vF_top : ∀ {L : List Pc} {a : Int}, vF a L = true → ∀ p ∈ L, a ≤ p.1 ∧ p.1 < p.2 ∧ p.2 ≤ 30000 := by
  intro L
  induction L with
  | nil => intro a _ p hp; simp at hp
  | cons q r ih =>
    intro a h p hp
    rw [vF_cons] at h
    rcases List.mem_cons.1 hp with rfl | hp
    · omega
    · have := ih h.2.2.2 p hp; omega
theorem hasB_iff {d : Int} {p : Pc} : hasB d p = true ↔ p.1 ≤ d ∧ d < p.2 := by simp [hasB]
theorem hasB_no {d : Int} {p : Pc} : hasB d p = false ↔ ¬ (p.1 ≤ d ∧ d < p.2) := by rw [Bool.eq_false_iff, Ne, hasB_iff]
theorem anyB_cons {d : Int} {p : Pc} {r : List Pc} : anyB d (p :: r) = (hasB d p || anyB d r) := rfl
theorem anyB_no {d : Int} {L : List Pc} (h : ∀ p ∈ L, d < p.1) : anyB d L = false := by
  unfold anyB
  rw [List.any_eq_false]
  intro p hp
  have := h p hp
  rw [hasB_iff]; omega
theorem ix_any : ∀ (L : List Pc) (d : Int) (i : Nat), decide (0 ≤ ix d i L) = anyB d L := by
  intro L
  induction L with
  | nil => intro d i; rfl
  | cons p r ih =>
    intro d i
    rw [anyB_cons]
    unfold ix
    split
    · rename_i h; simp [h]
    · rename_i h; rw [ih d (i + 1)]; simp [h]
/-- P32: a depth is in one piece -/
theorem ix_one : ∀ {L : List Pc} {a d : Int} {i : Nat}, vF a L = true → 0 ≤ ix d i L → ∀ (j : Nat) (p : Pc), L[j]? = some p → hasB d p = decide (((i + j : Nat) : Int) = ix d i L) := by
  intro L
  induction L with
  | nil => intro a d i _ _ j p hj; simp at hj
  | cons q r ih =>
    intro a d i h h0 j p hj
    rw [vF_cons] at h
    unfold ix at h0 ⊢
    cases j with
    | zero =>
      simp at hj
      subst hj
      split
      · rename_i hq; simp [hq]
      · rename_i hq
        rw [if_neg hq] at h0
        have := ix_ge r d (i + 1)
        have hne : ¬ ((i : Int) = ix d (i + 1) r) := by omega
        simp [hne, hq]
    | succ j =>
      simp at hj
      split
      · rename_i hq
        have hp := vF_top h.2.2.2 p (List.mem_of_getElem? hj)
        rw [hasB_iff] at hq
        have hne : ¬ (((i + (j + 1) : Nat) : Int) = (i : Int)) := by omega
        rw [decide_eq_false hne, hasB_no]
        omega
      · rename_i hq
        rw [if_neg hq] at h0
        have := ih h.2.2.2 h0 j p hj
        rw [this]
        congr 1
        rw [show i + (j + 1) = i + 1 + j from by omega]
/-- what the index is: the place of the piece that has the depth -/
theorem ix_at : ∀ {L : List Pc} {a d : Int} {i : Nat} (j : Nat) (p : Pc), vF a L = true → L[j]? = some p → hasB d p = true → ix d i L = ((i + j : Nat) : Int) := by
  intro L
  induction L with
  | nil => intro a d i j p _ hj; simp at hj
  | cons q r ih =>
    intro a d i j p h hj hp
    rw [vF_cons] at h
    unfold ix
    cases j with
    | zero => simp at hj; subst hj; rw [if_pos hp]; simp
    | succ j =>
      simp at hj
      have h1 := vF_top h.2.2.2 p (List.mem_of_getElem? hj)
      rw [hasB_iff] at hp
      have hq : ¬ hasB d q = true := by rw [hasB_iff]; omega
      rw [if_neg hq, ih j p h.2.2.2 hj (hasB_iff.2 hp)]
      omega
theorem ix_none {L : List Pc} {d : Int} {i : Nat} (h : ∀ p ∈ L, ¬ hasB d p = true) : ix d i L = -1 := by
  induction L generalizing i with
  | nil => rfl
  | cons p r ih =>
    unfold ix
    rw [if_neg (h p (by simp))]
    exact ih fun q hq => h q (by simp [hq])
theorem ix_get : ∀ {L : List Pc} {d : Int} {i : Nat}, 0 ≤ ix d i L → ∃ (j : Nat) (p : Pc), ix d i L = ((i + j : Nat) : Int) ∧ L[j]? = some p ∧ hasB d p = true := by
  intro L
  induction L with
  | nil => intro d i h; simp [ix] at h
  | cons q r ih =>
    intro d i h
    unfold ix at h ⊢
    split
    · rename_i hq; exact ⟨0, q, by simp, by simp, hq⟩
    · rename_i hq
      rw [if_neg hq] at h
      obtain ⟨j, p, h1, h2, h3⟩ := ih h
      exact ⟨j + 1, p, by rw [h1]; omega, by simpa using h2, h3⟩
/-- neighbours -/
theorem vF_next : ∀ {L : List Pc} {a : Int} (j k : Nat) (p q : Pc), vF a L = true → L[j]? = some p → L[k]? = some q → j < k → p.2 ≤ q.1 := by
  intro L
  induction L with
  | nil => intro a j k p q _ hj; simp at hj
  | cons s r ih =>
    intro a j k p q h hj hk hlt
    rw [vF_cons] at h
    cases k with
    | zero => omega
    | succ k =>
      simp at hk
      cases j with
      | zero => simp at hj; subst hj; exact (vF_top h.2.2.2 q (List.mem_of_getElem? hk)).1
      | succ j => simp at hj; exact ih j k p q h.2.2.2 hj hk (by omega)
/-- P44 -/
theorem ix_ends {L : List Pc} {d : Int} (h : vF 0 L = true) (h0 : 0 ≤ ix d 0 L) : ∃ (j : Nat) (p : Pc), ix d 0 L = (j : Int) ∧ L[j]? = some p ∧ p.1 < p.2 ∧ 0 ≤ p.1 ∧ p.2 ≤ 30000 ∧ ix p.1 0 L = (j : Int) ∧ ix (p.2 - 1) 0 L = (j : Int) ∧ (ix p.2 0 L = (j : Int) + 1 ∨ ix p.2 0 L = -1) := by
  obtain ⟨j, p, h1, h2, h3⟩ := ix_get h0
  rw [Nat.zero_add] at h1
  have hp := vF_top h p (List.mem_of_getElem? h2)
  refine ⟨j, p, h1, h2, hp.2.1, hp.1, hp.2.2, ?_, ?_, ?_⟩
  · have := ix_at (d := p.1) (i := 0) j p h h2 (hasB_iff.2 (by omega)); rw [this]; simp
  · have := ix_at (d := p.2 - 1) (i := 0) j p h h2 (hasB_iff.2 (by omega)); rw [this]; simp
  · rcases ix_ge L p.2 0 with h4 | h4
    · exact .inr h4
    · left
      obtain ⟨k, q, h5, h6, h7⟩ := ix_get (d := p.2) (i := 0) (L := L) (by omega)
      rw [Nat.zero_add] at h5
      rw [hasB_iff] at h7
      have hkj : j < k := by
        rcases Nat.lt_trichotomy j k with h8 | h8 | h8
        · exact h8
        · subst h8; rw [h2] at h6; injection h6 with h6; subst h6; omega
        · have := vF_next k j q p h h6 h2 h8
          omega
      have : k = j + 1 := by
        rcases Nat.lt_or_ge (j + 1) k with h8 | h8
        · exfalso
          have hlen : k < L.length := by
            rcases Nat.lt_or_ge k L.length with h9 | h9
            · exact h9
            · rw [List.getElem?_eq_none h9] at h6; cases h6
          have h9 : L[j + 1]? = some (L[j + 1]'(by omega)) := List.getElem?_eq_getElem (by omega)
          have h10 := vF_next j (j + 1) p _ h h2 h9 (by omega)
          have h11 := vF_next (j + 1) k _ q h h9 h6 h8
          have h12 := vF_top h _ (List.mem_of_getElem? h9)
          omega
        · omega
      rw [h5, this]; omega

/-! ### gaps -/
theorem gF_top : ∀ {r : List Pc} {a : Int}, vF a r = true → ∀ p ∈ gF a r, a ≤ p.1 := by
  intro r
  induction r with
  | nil => intro a _ p hp; simp [gF] at hp
  | cons q r ih =>
    intro a h p hp
    rw [vF_cons] at h
    unfold gF at hp
    split at hp
    · rcases List.mem_cons.1 hp with rfl | hp
      · exact Int.le_refl _
      · have := ih h.2.2.2 p hp; omega
    · have := ih h.2.2.2 p hp; omega
theorem gF_valid : ∀ {r : List Pc} {a : Int}, vF a r = true → vF a (gF a r) = true := by
  intro r
  induction r with
  | nil => intro a _; rfl
  | cons q r ih =>
    intro a h
    rw [vF_cons] at h
    unfold gF
    split
    · rename_i hl
      rw [vF_cons]
      exact ⟨by simp, hl, by show q.1 ≤ 30000; omega, vF_mono (by show q.1 ≤ q.2; omega) (ih h.2.2.2)⟩
    · exact vF_mono (by omega) (ih h.2.2.2)
theorem gF_length : ∀ (r : List Pc) (a : Int), (gF a r).length ≤ r.length := by
  intro r
  induction r with
  | nil => intro a; simp [gF]
  | cons q r ih => intro a; unfold gF; have := ih q.2; split <;> simp <;> omega
theorem gaps_valid {L : List Pc} (h : vB L = true) : vB (gaps L) = true ∧ (gaps L = [] ∨ (gaps L).length < L.length) := by
  rw [vB_iff] at h ⊢
  cases L with
  | nil => exact ⟨⟨rfl, by simp [gaps]⟩, .inl rfl⟩
  | cons p r =>
    have h1 := vF_cons.1 h.1
    have h2 := gF_length r p.2
    have h3 := h.2
    simp at h3
    refine ⟨⟨vF_mono (a := p.2) (by omega) (gF_valid h1.2.2.2), by show (gF p.2 r).length ≤ 20; omega⟩, .inr ?_⟩
    show (gF p.2 r).length < (p :: r).length
    simp
    omega
theorem gF_ln : ∀ {r : List Pc} {a : Int}, vF a r = true → ln r + ln (gF a r) = lastB a r - a := by
  intro r
  induction r with
  | nil => intro a _; simp [ln, gF, lastB]
  | cons q r ih =>
    intro a h
    rw [vF_cons] at h
    have := ih h.2.2.2
    unfold gF
    split
    · simp [ln, lastB]; omega
    · simp [ln, lastB]; omega
theorem gF_any : ∀ {r : List Pc} {q : Pc} {d : Int}, q.1 < q.2 → vF q.2 r = true → q.1 ≤ d → d < lastB q.2 r → anyB d (q :: r) = !anyB d (gF q.2 r) := by
  intro r
  induction r with
  | nil =>
    intro q d _ _ h1 h2
    simp only [lastB] at h2
    have : hasB d q = true := hasB_iff.2 ⟨h1, h2⟩
    rw [anyB_cons, this]; rfl
  | cons p r ih =>
    intro q d hq h h1 h2
    have h' := h
    rw [vF_cons] at h
    rcases Int.lt_or_le d q.2 with h3 | h3
    · have e1 : hasB d q = true := hasB_iff.2 ⟨h1, h3⟩
      have e2 : anyB d (gF q.2 (p :: r)) = false := anyB_no fun s hs => by have := gF_top h' s hs; omega
      rw [anyB_cons, e1, e2]; rfl
    · have e1 : hasB d q = false := hasB_no.2 (by omega)
      rw [anyB_cons, e1, Bool.false_or]
      rcases Int.lt_or_le d p.1 with h4 | h4
      · have e2 : anyB d (p :: r) = false := anyB_no fun s hs => by
          rcases List.mem_cons.1 hs with rfl | hs
          · exact h4
          · have := vF_top h.2.2.2 s hs; omega
        have e3 : anyB d (gF q.2 (p :: r)) = true := by
          unfold gF
          rw [if_pos (by omega), anyB_cons, (hasB_iff (p := (q.2, p.1))).2 ⟨h3, h4⟩]; rfl
        rw [e2, e3]; rfl
      · rw [ih h.2.1 h.2.2.2 h4 h2]
        congr 1
        conv => rhs; unfold gF
        split
        · rw [anyB_cons, (hasB_no (p := (q.2, p.1))).2 (by show ¬ (q.2 ≤ d ∧ d < p.1); omega), Bool.false_or]
        · rfl

/-! ### joins -/
theorem jF_ne : ∀ (r : List Pc) (q : Pc), jF q r ≠ [] := by
  intro r
  induction r with
  | nil => intro q; simp [jF]
  | cons p r ih => intro q; unfold jF; split; exact ih _; simp
theorem jF_length : ∀ {r : List Pc} {q : Pc}, vF q.2 r = true → (jF q r).length = (gF q.2 r).length + 1 := by
  intro r
  induction r with
  | nil => intro q _; rfl
  | cons p r ih =>
    intro q h
    rw [vF_cons] at h
    unfold jF gF
    split
    · rw [if_neg (by omega), ih (q := (q.1, p.2)) h.2.2.2]
    · rw [if_pos (by omega)]; simp [ih h.2.2.2]
theorem jF_gaps : ∀ {r : List Pc} {q : Pc}, q.1 < q.2 → vF q.2 r = true → gF q.1 (gF q.2 r) = (jF q r).dropLast := by
  intro r
  induction r with
  | nil => intro q _ _; rfl
  | cons p r ih =>
    intro q hq h
    rw [vF_cons] at h
    by_cases hj : q.2 = p.1
    · have e1 : jF q (p :: r) = jF (q.1, p.2) r := by rw [jF, if_pos hj]
      have e2 : gF q.2 (p :: r) = gF p.2 r := by rw [gF, if_neg (by omega)]
      rw [e1, e2]
      exact ih (q := (q.1, p.2)) (by show q.1 < p.2; omega) h.2.2.2
    · have e1 : jF q (p :: r) = q :: jF p r := by rw [jF, if_neg hj]
      have e2 : gF q.2 (p :: r) = (q.2, p.1) :: gF p.2 r := by rw [gF, if_pos (by omega)]
      rw [e1, e2, gF, if_pos (by exact hq), ih h.2.1 h.2.2.2, List.dropLast_cons_of_ne_nil (jF_ne r p)]
/-- P34 -/
theorem gaps_gaps {L : List Pc} (h : vF 0 L = true) (hne : gaps L ≠ []) : (join L).length = (gaps L).length + 1 ∧ gaps (gaps L) = ((join L).drop 1).dropLast := by
  cases L with
  | nil => exact absurd rfl hne
  | cons p r =>
    have h1 := vF_cons.1 h
    refine ⟨jF_length h1.2.2.2, ?_⟩
    have h2 := jF_gaps h1.2.1 h1.2.2.2
    show gaps (gF p.2 r) = ((jF p r).drop 1).dropLast
    have h3 : gF p.2 r ≠ [] := hne
    have h4 := gF_top h1.2.2.2
    have h5 : vF p.2 (gF p.2 r) = true := gF_valid h1.2.2.2
    revert h2 h3 h4 h5
    generalize gF p.2 r = G
    intro h2 h3 h4 h5
    cases G with
    | nil => exact absurd rfl h3
    | cons s G =>
      have h6 := h4 s (by simp)
      rw [gF, if_pos (by omega)] at h2
      show gF s.2 G = _
      have : ((jF p r).drop 1).dropLast = ((jF p r).dropLast).drop 1 := by
        cases hJ : jF p r with
        | nil => rfl
        | cons a b =>
          cases b with
          | nil => rfl
          | cons c d => simp [List.dropLast]
      rw [this, ← h2]
      rfl

/-! ### how much of a core lies above a depth -/
def cov : Int → List Pc → Int
  | _, [] => 0
  | d, p :: r => max 0 (min d p.2 - p.1) + cov d r
theorem cov_top : ∀ {L : List Pc} {a d : Int}, vF a L = true → d ≤ a → cov d L = 0 := by
  intro L
  induction L with
  | nil => intro a d _ _; rfl
  | cons p r ih =>
    intro a d h hd
    rw [vF_cons] at h
    rw [cov, ih h.2.2.2 (by omega)]
    omega
theorem cov_step : ∀ {L : List Pc} {a d : Int}, vF a L = true → cov (d + 1) L = cov d L + (if anyB d L then 1 else 0) := by
  intro L
  induction L with
  | nil => intro a d _; rfl
  | cons p r ih =>
    intro a d h
    rw [vF_cons] at h
    rw [cov, cov, anyB_cons]
    cases hb : hasB d p
    · rw [hasB_no] at hb
      rw [ih h.2.2.2, Bool.false_or]
      omega
    · rw [hasB_iff] at hb
      rw [cov_top (d := d + 1) h.2.2.2 (by omega), cov_top (d := d) h.2.2.2 (by omega), Bool.true_or, if_pos rfl]
      omega
theorem lastB_ge : ∀ {L : List Pc} {a : Int}, vF a L = true → a ≤ lastB a L := by
  intro L
  induction L with
  | nil => intro a _; exact Int.le_refl _
  | cons p r ih => intro a h; rw [vF_cons] at h; have := ih h.2.2.2; show a ≤ lastB p.2 r; omega
theorem lastB_le : ∀ {L : List Pc} {a : Int}, vF a L = true → a ≤ 30000 → lastB a L ≤ 30000 := by
  intro L
  induction L with
  | nil => intro a _ h; exact h
  | cons p r ih => intro a h _; rw [vF_cons] at h; exact ih h.2.2.2 (by omega)
theorem cov_all : ∀ {L : List Pc} {a d : Int}, vF a L = true → lastB a L ≤ d → cov d L = ln L := by
  intro L
  induction L with
  | nil => intro a d _ _; rfl
  | cons p r ih =>
    intro a d h hd
    rw [vF_cons] at h
    have h1 : lastB p.2 r ≤ d := hd
    have := lastB_ge h.2.2.2
    rw [cov, ln, ih h.2.2.2 h1]
    omega
theorem cov_le : ∀ {L : List Pc} {a : Int} (d : Int), vF a L = true → 0 ≤ cov d L ∧ cov d L ≤ ln L := by
  intro L
  induction L with
  | nil => intro a d _; simp [cov, ln]
  | cons p r ih =>
    intro a d h
    rw [vF_cons] at h
    have := ih d h.2.2.2
    rw [cov, ln]
    omega
end Go.Proofs.Ytbfcfhngfenpjaa.Co
