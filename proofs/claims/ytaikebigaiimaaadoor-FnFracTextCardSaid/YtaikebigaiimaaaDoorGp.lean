/-
  Plain laws of fractions in lowest terms: no program in sight.
  Conditions: none.
-/
namespace Go.Proofs.YtaikebigaiimaaaDoor.Fr

/-- A valid fraction. -/
structure Ok (n d : Int) : Prop where
  d1 : 1 ≤ d
  d2 : d ≤ 1000000000
  n1 : -1000000000 ≤ n
  n2 : n ≤ 1000000000
  co : Int.gcd n d = 1

def okB (n d : Int) : Bool := decide (1 ≤ d ∧ d ≤ 1000000000 ∧ -1000000000 ≤ n ∧ n ≤ 1000000000 ∧ Int.gcd n d = 1)

theorem okB_iff {n d : Int} : okB n d = true ↔ Ok n d := by
  unfold okB
  rw [decide_eq_true_iff]
  exact ⟨fun ⟨a, b, c, e, f⟩ => ⟨a, b, c, e, f⟩, fun ⟨a, b, c, e, f⟩ => ⟨a, b, c, e, f⟩⟩

theorem dvd_of_co {a b c : Int} (h : a ∣ b * c) (hg : Int.gcd a b = 1) : a ∣ c := by
  have h1 : a.natAbs ∣ b.natAbs * c.natAbs := by rw [← Int.natAbs_mul]; exact Int.natAbs_dvd_natAbs.2 h
  exact Int.natAbs_dvd_natAbs.1 (Nat.Coprime.dvd_of_dvd_mul_left hg h1)

/-- lowest terms are unique -/
theorem low_unique {n d m e : Int} (hd : 1 ≤ d) (he : 1 ≤ e) (hn : Int.gcd n d = 1) (hm : Int.gcd m e = 1) (h : n * e = m * d) : n = m ∧ d = e := by
  have h1 : d ∣ e := dvd_of_co (b := n) ⟨m, by rw [h, Int.mul_comm]⟩ (by rw [Int.gcd_comm]; exact hn)
  have h2 : e ∣ d := dvd_of_co (b := m) ⟨n, by rw [← h, Int.mul_comm]⟩ (by rw [Int.gcd_comm]; exact hm)
  have h3 : d = e := Int.le_antisymm (Int.le_of_dvd (by omega) h1) (Int.le_of_dvd (by omega) h2)
  subst h3
  exact ⟨Int.eq_of_mul_eq_mul_right (by omega) h, rfl⟩

theorem ok_unique {n d m e : Int} (h1 : Ok n d) (h2 : Ok m e) (h : n * e = m * d) : n = m ∧ d = e :=
  low_unique h1.d1 h2.d1 h1.co h2.co h

/-- the greatest common divisor with the sign of the second number -/
def gS (a b : Int) : Int := if b < 0 then -(Int.gcd a b : Int) else (Int.gcd a b : Int)
def qN (a b : Int) : Int := a.tdiv (gS a b)
def qD (a b : Int) : Int := b.tdiv (gS a b)

theorem gcd_pos {a b : Int} (hb : b ≠ 0) : 1 ≤ (Int.gcd a b : Int) := by
  have := Int.gcd_pos_of_ne_zero_right a hb
  omega
theorem gS_ne {a b : Int} (hb : b ≠ 0) : gS a b ≠ 0 := by
  unfold gS
  have := gcd_pos (a := a) hb
  split <;> omega
theorem gS_dvd_left (a b : Int) : gS a b ∣ a := by
  unfold gS
  split
  · exact Int.neg_dvd.2 (Int.gcd_dvd_left a b)
  · exact Int.gcd_dvd_left a b
theorem gS_dvd_right (a b : Int) : gS a b ∣ b := by
  unfold gS
  split
  · exact Int.neg_dvd.2 (Int.gcd_dvd_right a b)
  · exact Int.gcd_dvd_right a b

theorem q_left (a b : Int) : gS a b * qN a b = a := Int.mul_tdiv_cancel' (gS_dvd_left a b)
theorem q_right (a b : Int) : gS a b * qD a b = b := Int.mul_tdiv_cancel' (gS_dvd_right a b)

theorem gS_sign {a b : Int} (hb : b ≠ 0) : (0 < b ∧ 0 < gS a b) ∨ (b < 0 ∧ gS a b < 0) := by
  unfold gS
  have := gcd_pos (a := a) hb
  split <;> omega

theorem qD_pos {a b : Int} (hb : b ≠ 0) : 1 ≤ qD a b := by
  have e := q_right a b
  rcases Int.lt_or_le 0 (qD a b) with h | h
  · omega
  · exfalso
    rcases gS_sign (a := a) hb with ⟨h1, h2⟩ | ⟨h1, h2⟩
    · have := Int.mul_nonpos_of_nonneg_of_nonpos (Int.le_of_lt h2) h
      omega
    · have := Int.mul_nonneg_of_nonpos_of_nonpos (Int.le_of_lt h2) h
      omega

theorem q_co {a b : Int} (hb : b ≠ 0) : Int.gcd (qN a b) (qD a b) = 1 := by
  have h := Int.gcd_mul_left (gS a b) (qN a b) (qD a b)
  rw [q_left, q_right] at h
  have h2 : (gS a b).natAbs = Int.gcd a b := by unfold gS; split <;> omega
  rw [h2] at h
  have h3 := Int.gcd_pos_of_ne_zero_right a hb
  exact Nat.eq_of_mul_eq_mul_left h3 (by omega)

theorem q_val (a b : Int) : qN a b * b = a * qD a b := by
  have h1 := q_left a b
  have h2 := q_right a b
  have : qN a b * (gS a b * qD a b) = (gS a b * qN a b) * qD a b := by grind
  rwa [h1, h2] at this

theorem q_unique {a b n d : Int} (hb : b ≠ 0) (hd : 1 ≤ d) (hc : Int.gcd n d = 1) (h : n * b = a * d) : qN a b = n ∧ qD a b = d := by
  refine low_unique (qD_pos hb) hd (q_co hb) hc ?_
  have h1 := q_val a b
  have : (qN a b * d) * b = (n * qD a b) * b := by grind
  exact Int.eq_of_mul_eq_mul_right hb this

/-- what FracOf answers -/
def ofOk (a b : Int) : Bool := decide (b ≠ 0 ∧ -4000000000000000000 ≤ a ∧ a ≤ 4000000000000000000 ∧ -4000000000000000000 ≤ b ∧ b ≤ 4000000000000000000) && okB (qN a b) (qD a b)
def ofN (a b : Int) : Int := if ofOk a b then qN a b else 0
def ofD (a b : Int) : Int := if ofOk a b then qD a b else 0

theorem of_val {a b : Int} (h : ofOk a b = true) : Ok (ofN a b) (ofD a b) ∧ ofN a b * b = a * ofD a b ∧ b ≠ 0 := by
  unfold ofN ofD
  rw [if_pos h, if_pos h]
  unfold ofOk at h
  rw [Bool.and_eq_true, decide_eq_true_iff, okB_iff] at h
  exact ⟨h.2, q_val a b, h.1.1⟩

theorem of_mk {a b n d : Int} (hb : b ≠ 0) (h1 : -4000000000000000000 ≤ a) (h2 : a ≤ 4000000000000000000) (h3 : -4000000000000000000 ≤ b) (h4 : b ≤ 4000000000000000000)
    (ho : Ok n d) (h : n * b = a * d) : ofOk a b = true ∧ ofN a b = n ∧ ofD a b = d := by
  obtain ⟨e1, e2⟩ := q_unique hb ho.d1 ho.co h
  have hk : ofOk a b = true := by
    unfold ofOk
    rw [Bool.and_eq_true, decide_eq_true_iff, e1, e2, okB_iff]
    exact ⟨⟨hb, h1, h2, h3, h4⟩, ho⟩
  unfold ofN ofD
  rw [if_pos hk, if_pos hk]
  exact ⟨hk, e1, e2⟩

theorem of_no {a b : Int} (h : ofOk a b = false) : ofN a b = 0 ∧ ofD a b = 0 := by
  unfold ofN ofD
  rw [h]
  exact ⟨rfl, rfl⟩

theorem mul_le {x y : Int} (B C : Int) (hx1 : -B ≤ x) (hx2 : x ≤ B) (hy1 : -C ≤ y) (hy2 : y ≤ C) : -(B * C) ≤ x * y ∧ x * y ≤ B * C := by
  have hx : x.natAbs ≤ B.natAbs := by omega
  have hy : y.natAbs ≤ C.natAbs := by omega
  have h := Nat.mul_le_mul hx hy
  rw [← Int.natAbs_mul, ← Int.natAbs_mul] at h
  have : 0 ≤ B * C := Int.mul_nonneg (by omega) (by omega)
  omega

theorem mul_9 {x y : Int} (hx1 : -1000000000 ≤ x) (hx2 : x ≤ 1000000000) (hy1 : -1000000000 ≤ y) (hy2 : y ≤ 1000000000) : -1000000000000000000 ≤ x * y ∧ x * y ≤ 1000000000000000000 := by
  have := mul_le 1000000000 1000000000 hx1 hx2 hy1 hy2
  omega

theorem pos_mul {x y : Int} (h1 : 1 ≤ x) (h2 : 1 ≤ y) : 1 ≤ x * y := by
  have := Int.mul_pos (a := x) (b := y) (by omega) (by omega)
  omega

/-! ### the loop of the greatest common divisor -/
theorem gcd_step (a b : Int) : Int.gcd b (a.tmod b) = Int.gcd a b := by
  have h := Int.mul_tdiv_add_tmod a b
  have h2 := Int.gcd_mul_left_add_right b (a.tmod b) (a.tdiv b)
  rw [h] at h2
  rw [← h2, Int.gcd_comm]

theorem tmod_lt (a : Int) {b : Int} (hb : b ≠ 0) : (a.tmod b).natAbs < b.natAbs := by
  rw [Int.natAbs_tmod]
  exact Nat.mod_lt _ (by omega)

theorem eq_by {xn xd zn zd k : Int} (hx : Ok xn xd) (hz : Ok zn zd) (hk : k ≠ 0) (h : (xn * zd) * k = (zn * xd) * k) : xn = zn ∧ xd = zd :=
  ok_unique hx hz (Int.eq_of_mul_eq_mul_right hk h)

theorem ne_mul {x y : Int} (h1 : x ≠ 0) (h2 : y ≠ 0) : x * y ≠ 0 := Int.mul_ne_zero h1 h2
theorem Ok.ne {n d : Int} (h : Ok n d) : d ≠ 0 := by have := h.d1; omega

def addOk (an ad bn bd : Int) : Bool := okB an ad && okB bn bd && ofOk (an * bd + bn * ad) (ad * bd)
def addN (an ad bn bd : Int) : Int := if addOk an ad bn bd then ofN (an * bd + bn * ad) (ad * bd) else 0
def addD (an ad bn bd : Int) : Int := if addOk an ad bn bd then ofD (an * bd + bn * ad) (ad * bd) else 0
def subOk (an ad bn bd : Int) : Bool := okB an ad && okB bn bd && ofOk (an * bd - bn * ad) (ad * bd)
def subN (an ad bn bd : Int) : Int := if subOk an ad bn bd then ofN (an * bd - bn * ad) (ad * bd) else 0
def subD (an ad bn bd : Int) : Int := if subOk an ad bn bd then ofD (an * bd - bn * ad) (ad * bd) else 0
def mulOk (an ad bn bd : Int) : Bool := okB an ad && okB bn bd && ofOk (an * bn) (ad * bd)
def mulN (an ad bn bd : Int) : Int := if mulOk an ad bn bd then ofN (an * bn) (ad * bd) else 0
def mulD (an ad bn bd : Int) : Int := if mulOk an ad bn bd then ofD (an * bn) (ad * bd) else 0
def divOk (an ad bn bd : Int) : Bool := okB an ad && okB bn bd && ofOk (an * bd) (ad * bn)
def divN (an ad bn bd : Int) : Int := if divOk an ad bn bd then ofN (an * bd) (ad * bn) else 0
def divD (an ad bn bd : Int) : Int := if divOk an ad bn bd then ofD (an * bd) (ad * bn) else 0

section
variable {an ad bn bd xn xd : Int}
theorem and3 {p q r : Bool} (h : (p && q && r) = true) : p = true ∧ q = true ∧ r = true := by
  rw [Bool.and_eq_true, Bool.and_eq_true] at h
  exact ⟨h.1.1, h.1.2, h.2⟩

theorem add_val (h : addOk an ad bn bd = true) : Ok an ad ∧ Ok bn bd ∧ Ok (addN an ad bn bd) (addD an ad bn bd) ∧
    addN an ad bn bd * (ad * bd) = (an * bd + bn * ad) * addD an ad bn bd := by
  unfold addN addD
  rw [if_pos h, if_pos h]
  obtain ⟨h1, h2, h3⟩ := and3 h
  obtain ⟨v1, v2, _⟩ := of_val h3
  exact ⟨okB_iff.1 h1, okB_iff.1 h2, v1, v2⟩
theorem sub_val (h : subOk an ad bn bd = true) : Ok an ad ∧ Ok bn bd ∧ Ok (subN an ad bn bd) (subD an ad bn bd) ∧
    subN an ad bn bd * (ad * bd) = (an * bd - bn * ad) * subD an ad bn bd := by
  unfold subN subD
  rw [if_pos h, if_pos h]
  obtain ⟨h1, h2, h3⟩ := and3 h
  obtain ⟨v1, v2, _⟩ := of_val h3
  exact ⟨okB_iff.1 h1, okB_iff.1 h2, v1, v2⟩
theorem mul_val (h : mulOk an ad bn bd = true) : Ok an ad ∧ Ok bn bd ∧ Ok (mulN an ad bn bd) (mulD an ad bn bd) ∧
    mulN an ad bn bd * (ad * bd) = (an * bn) * mulD an ad bn bd := by
  unfold mulN mulD
  rw [if_pos h, if_pos h]
  obtain ⟨h1, h2, h3⟩ := and3 h
  obtain ⟨v1, v2, _⟩ := of_val h3
  exact ⟨okB_iff.1 h1, okB_iff.1 h2, v1, v2⟩
theorem div_val (h : divOk an ad bn bd = true) : Ok an ad ∧ Ok bn bd ∧ Ok (divN an ad bn bd) (divD an ad bn bd) ∧
    divN an ad bn bd * (ad * bn) = (an * bd) * divD an ad bn bd ∧ bn ≠ 0 := by
  unfold divN divD
  rw [if_pos h, if_pos h]
  obtain ⟨h1, h2, h3⟩ := and3 h
  obtain ⟨v1, v2, v3⟩ := of_val h3
  exact ⟨okB_iff.1 h1, okB_iff.1 h2, v1, v2, fun e => v3 (by rw [e]; simp)⟩

theorem Ok.b9 {n d : Int} (h : Ok n d) : -1000000000 ≤ n ∧ n ≤ 1000000000 ∧ -1000000000 ≤ d ∧ d ≤ 1000000000 := by
  have := h.d1; have := h.d2; have := h.n1; have := h.n2; omega

theorem add_mk (ha : Ok an ad) (hb : Ok bn bd) (hx : Ok xn xd) (h : xn * (ad * bd) = (an * bd + bn * ad) * xd) :
    addOk an ad bn bd = true ∧ addN an ad bn bd = xn ∧ addD an ad bn bd = xd := by
  have a9 := ha.b9; have b9 := hb.b9
  have m1 := mul_9 a9.1 a9.2.1 b9.2.2.1 b9.2.2.2
  have m2 := mul_9 b9.1 b9.2.1 a9.2.2.1 a9.2.2.2
  have m3 := mul_9 a9.2.2.1 a9.2.2.2 b9.2.2.1 b9.2.2.2
  obtain ⟨e1, e2, e3⟩ := of_mk (ne_mul ha.ne hb.ne) (by omega) (by omega) (by omega) (by omega) hx h
  have hk : addOk an ad bn bd = true := by unfold addOk; rw [okB_iff.2 ha, okB_iff.2 hb, e1]; rfl
  unfold addN addD
  rw [if_pos hk, if_pos hk]
  exact ⟨hk, e2, e3⟩
theorem sub_mk (ha : Ok an ad) (hb : Ok bn bd) (hx : Ok xn xd) (h : xn * (ad * bd) = (an * bd - bn * ad) * xd) :
    subOk an ad bn bd = true ∧ subN an ad bn bd = xn ∧ subD an ad bn bd = xd := by
  have a9 := ha.b9; have b9 := hb.b9
  have m1 := mul_9 a9.1 a9.2.1 b9.2.2.1 b9.2.2.2
  have m2 := mul_9 b9.1 b9.2.1 a9.2.2.1 a9.2.2.2
  have m3 := mul_9 a9.2.2.1 a9.2.2.2 b9.2.2.1 b9.2.2.2
  obtain ⟨e1, e2, e3⟩ := of_mk (ne_mul ha.ne hb.ne) (by omega) (by omega) (by omega) (by omega) hx h
  have hk : subOk an ad bn bd = true := by unfold subOk; rw [okB_iff.2 ha, okB_iff.2 hb, e1]; rfl
  unfold subN subD
  rw [if_pos hk, if_pos hk]
  exact ⟨hk, e2, e3⟩
theorem mul_mk (ha : Ok an ad) (hb : Ok bn bd) (hx : Ok xn xd) (h : xn * (ad * bd) = (an * bn) * xd) :
    mulOk an ad bn bd = true ∧ mulN an ad bn bd = xn ∧ mulD an ad bn bd = xd := by
  have a9 := ha.b9; have b9 := hb.b9
  have m1 := mul_9 a9.1 a9.2.1 b9.1 b9.2.1
  have m3 := mul_9 a9.2.2.1 a9.2.2.2 b9.2.2.1 b9.2.2.2
  obtain ⟨e1, e2, e3⟩ := of_mk (ne_mul ha.ne hb.ne) (by omega) (by omega) (by omega) (by omega) hx h
  have hk : mulOk an ad bn bd = true := by unfold mulOk; rw [okB_iff.2 ha, okB_iff.2 hb, e1]; rfl
  unfold mulN mulD
  rw [if_pos hk, if_pos hk]
  exact ⟨hk, e2, e3⟩
theorem div_mk (ha : Ok an ad) (hb : Ok bn bd) (hn : bn ≠ 0) (hx : Ok xn xd) (h : xn * (ad * bn) = (an * bd) * xd) :
    divOk an ad bn bd = true ∧ divN an ad bn bd = xn ∧ divD an ad bn bd = xd := by
  have a9 := ha.b9; have b9 := hb.b9
  have m1 := mul_9 a9.1 a9.2.1 b9.2.2.1 b9.2.2.2
  have m3 := mul_9 a9.2.2.1 a9.2.2.2 b9.1 b9.2.1
  obtain ⟨e1, e2, e3⟩ := of_mk (ne_mul ha.ne hn) (by omega) (by omega) (by omega) (by omega) hx h
  have hk : divOk an ad bn bd = true := by unfold divOk; rw [okB_iff.2 ha, okB_iff.2 hb, e1]; rfl
  unfold divN divD
  rw [if_pos hk, if_pos hk]
  exact ⟨hk, e2, e3⟩
end

/-! ### the laws, in plain words -/
theorem ok_int (k : Int) (h1 : -1000000000 ≤ k) (h2 : k ≤ 1000000000) : Ok k 1 := ⟨by omega, by omega, h1, h2, by simp⟩
theorem ok_neg {n d : Int} (h : Ok n d) : Ok (0 - n) d := by
  have := h.n1; have := h.n2
  exact ⟨h.d1, h.d2, by omega, by omega, by rw [Int.zero_sub, Int.neg_gcd]; exact h.co⟩

section
variable {an ad bn bd : Int}
/-- P15 -/
theorem add_law (h : addOk an ad bn bd = true) : (addOk bn bd an ad = true ∧ addN bn bd an ad = addN an ad bn bd ∧ addD bn bd an ad = addD an ad bn bd) ∧
    (subOk (addN an ad bn bd) (addD an ad bn bd) bn bd = true ∧ subN (addN an ad bn bd) (addD an ad bn bd) bn bd = an ∧ subD (addN an ad bn bd) (addD an ad bn bd) bn bd = ad) := by
  obtain ⟨ha, hb, hx, hv⟩ := add_val h
  generalize addN an ad bn bd = xn at *
  generalize addD an ad bn bd = xd at *
  exact ⟨add_mk hb ha hx (by grind), sub_mk hx hb ha (by
    refine Int.eq_of_mul_eq_mul_right hb.ne ?_
    grind)⟩
/-- P16 -/
theorem add_three {cn cd : Int} (h : addOk an ad bn bd = true) (h1 : addOk (addN an ad bn bd) (addD an ad bn bd) cn cd = true) (h2 : addOk bn bd cn cd = true)
    (h3 : addOk an ad (addN bn bd cn cd) (addD bn bd cn cd) = true) :
    addN (addN an ad bn bd) (addD an ad bn bd) cn cd = addN an ad (addN bn bd cn cd) (addD bn bd cn cd) ∧
    addD (addN an ad bn bd) (addD an ad bn bd) cn cd = addD an ad (addN bn bd cn cd) (addD bn bd cn cd) := by
  obtain ⟨ha, hb, ho, v0⟩ := add_val h
  obtain ⟨_, hc, hx, v1⟩ := add_val h1
  obtain ⟨_, _, hy, v2⟩ := add_val h2
  obtain ⟨_, _, hz, v3⟩ := add_val h3
  clear h h1 h2 h3
  generalize addN (addN an ad bn bd) (addD an ad bn bd) cn cd = xn at *
  generalize addD (addN an ad bn bd) (addD an ad bn bd) cn cd = xd at *
  generalize addN an ad (addN bn bd cn cd) (addD bn bd cn cd) = zn at *
  generalize addD an ad (addN bn bd cn cd) (addD bn bd cn cd) = zd at *
  generalize addN an ad bn bd = on at *
  generalize addD an ad bn bd = od at *
  generalize addN bn bd cn cd = yn at *
  generalize addD bn bd cn cd = yd at *
  refine eq_by hx hz (k := od * yd * ad * bd * cd) (ne_mul (ne_mul (ne_mul (ne_mul ho.ne hy.ne) ha.ne) hb.ne) hc.ne) ?_
  grind
end
/-! ### more laws -/
theorem pos_of_mul {x k : Int} (hk : 0 < k) : 0 < x * k ↔ 0 < x := by
  constructor
  · intro h
    rcases Int.lt_or_le 0 x with h1 | h1
    · exact h1
    · have := Int.mul_nonpos_of_nonpos_of_nonneg h1 (Int.le_of_lt hk)
      omega
  · intro h
    exact Int.mul_pos h hk
theorem lt_by {x y u v k m : Int} (hk : 0 < k) (hm : 0 < m) (h : (y - x) * k = (v - u) * m) : x < y ↔ u < v := by
  have h1 := pos_of_mul (x := y - x) hk
  have h2 := pos_of_mul (x := v - u) hm
  rw [h] at h1
  omega
theorem Ok.pos {n d : Int} (h : Ok n d) : 0 < d := by have := h.d1; omega
theorem pm {x y : Int} (h1 : 0 < x) (h2 : 0 < y) : 0 < x * y := Int.mul_pos h1 h2

def lessB (an ad bn bd : Int) : Bool := okB an ad && okB bn bd && decide (an * bd < bn * ad)
section
variable {an ad bn bd xn xd : Int}
theorem less_iff (ha : Ok an ad) (hb : Ok bn bd) : lessB an ad bn bd = true ↔ an * bd < bn * ad := by
  unfold lessB
  rw [okB_iff.2 ha, okB_iff.2 hb, Bool.and_true, Bool.true_and, decide_eq_true_iff]
theorem less_val (h : lessB an ad bn bd = true) : Ok an ad ∧ Ok bn bd ∧ an * bd < bn * ad := by
  obtain ⟨h1, h2, h3⟩ := and3 h
  exact ⟨okB_iff.1 h1, okB_iff.1 h2, of_decide_eq_true h3⟩
theorem less_eq_decide {p : Prop} [Decidable p] (ha : Ok an ad) (hb : Ok bn bd) (h : an * bd < bn * ad ↔ p) : lessB an ad bn bd = decide p := by
  rw [Bool.eq_iff_iff, less_iff ha hb, decide_eq_true_iff]; exact h

/-- P12 -/
theorem of_law {a b : Int} (h : ofOk a b = true) : ofOk (0 - a) (0 - b) = true ∧ ofN (0 - a) (0 - b) = ofN a b ∧ ofD (0 - a) (0 - b) = ofD a b := by
  obtain ⟨ho, hv, hb⟩ := of_val h
  unfold ofOk at h
  rw [Bool.and_eq_true, decide_eq_true_iff] at h
  refine of_mk (by omega) (by omega) (by omega) (by omega) (by omega) ho ?_
  grind
/-- P13 -/
theorem of_scale {a b k : Int} (h : ofOk a b = true) (hk : k ≠ 0) (h1 : -4000000000000000000 ≤ k * a) (h2 : k * a ≤ 4000000000000000000) (h3 : -4000000000000000000 ≤ k * b) (h4 : k * b ≤ 4000000000000000000) :
    ofOk (k * a) (k * b) = true ∧ ofN (k * a) (k * b) = ofN a b ∧ ofD (k * a) (k * b) = ofD a b := by
  obtain ⟨ho, hv, hb⟩ := of_val h
  refine of_mk (ne_mul hk hb) h1 h2 h3 h4 ho ?_
  grind
/-- P14 -/
theorem valid_law (h : okB an ad = true) : (ofOk an ad = true ∧ ofN an ad = an ∧ ofD an ad = ad) ∧ okB (2 * an) (2 * ad) = false ∧ okB an 0 = false := by
  have ho := okB_iff.1 h
  have h9 := ho.b9
  refine ⟨of_mk ho.ne (by omega) (by omega) (by omega) (by omega) ho rfl, ?_, ?_⟩
  · rw [Bool.eq_false_iff, Ne, okB_iff]
    intro h2
    have h3 := h2.co
    rw [Int.gcd_mul_left, ho.co] at h3
    omega
  · rw [Bool.eq_false_iff, Ne, okB_iff]
    intro h2
    have := h2.d1
    omega
/-- P21 -/
theorem less_law (h : lessB an ad bn bd = true) : lessB bn bd an ad = false ∧ lessB an ad an ad = false ∧ lessB (0 - bn) bd (0 - an) ad = true := by
  obtain ⟨ha, hb, hv⟩ := less_val h
  refine ⟨?_, ?_, ?_⟩
  · rw [Bool.eq_false_iff, Ne, less_iff hb ha]; omega
  · rw [Bool.eq_false_iff, Ne, less_iff ha ha]; omega
  · rw [less_iff (ok_neg hb) (ok_neg ha), Int.zero_sub, Int.zero_sub, Int.neg_mul, Int.neg_mul]; omega

/-- P23: the whole part: Go's quotient, one less where the remainder is negative -/
def flo (n d : Int) : Int := if n.tmod d < 0 then n.tdiv d - 1 else n.tdiv d
theorem flo_eq {n d : Int} (hd : 1 ≤ d) : flo n d = n / d := by
  unfold flo
  have h1 := Int.mul_tdiv_add_tmod n d
  have h2 := Int.tmod_lt_of_pos n (b := d) (by omega)
  have h3 : -d < n.tmod d := by
    have := tmod_lt n (b := d) (by omega)
    omega
  split
  · refine ((Int.ediv_emod_unique (a := n) (b := d) (r := n.tmod d + d) (q := n.tdiv d - 1) (by omega)).2 ⟨?_, by omega, by omega⟩).1.symm
    grind
  · refine ((Int.ediv_emod_unique (a := n) (b := d) (r := n.tmod d) (q := n.tdiv d) (by omega)).2 ⟨?_, by omega, by omega⟩).1.symm
    grind
theorem flo_bound {n d : Int} (hd : 1 ≤ d) : flo n d * d ≤ n ∧ n < (flo n d + 1) * d := by
  rw [flo_eq hd]
  have h1 := Int.mul_ediv_add_emod n d
  have h2 := Int.emod_nonneg n (b := d) (by omega)
  have h3 := Int.emod_lt_of_pos n (b := d) (by omega)
  have e1 : n / d * d = d * (n / d) := Int.mul_comm _ _
  have e2 : (n / d + 1) * d = d * (n / d) + d := by grind
  omega
theorem flo_uniq {n d q : Int} (hd : 1 ≤ d) (h1 : q * d ≤ n) (h2 : n < (q + 1) * d) : flo n d = q := by
  rw [flo_eq hd]
  have e2 : (q + 1) * d = q * d + d := by grind
  refine ((Int.ediv_emod_unique (a := n) (b := d) (r := n - q * d) (q := q) (by omega)).2 ⟨?_, by omega, by omega⟩).1
  grind
theorem flo_one (n : Int) : flo n 1 = n := by rw [flo_eq (by omega)]; simp
theorem flo_small {n d : Int} (h : Ok n d) : -1000000001 ≤ flo n d ∧ flo n d ≤ 1000000001 := by
  have h9 := h.b9
  have hd := h.d1
  obtain ⟨b1, b2⟩ := flo_bound (n := n) hd
  constructor
  · rcases Int.lt_or_le (flo n d) (-1000000001) with h1 | h1
    · exfalso
      have := Int.mul_le_mul_of_nonneg_right (a := flo n d + 1) (b := -1000000001) (c := d) (by omega) (by omega)
      omega
    · exact h1
  · rcases Int.lt_or_le 1000000001 (flo n d) with h1 | h1
    · exfalso
      have := Int.mul_le_mul_of_nonneg_right (a := 1000000001) (b := flo n d) (c := d) (by omega) (by omega)
      omega
    · exact h1
/-- P27, its first half -/
theorem flo_add {k : Int} (h : addOk an ad k 1 = true) : Ok (addN an ad k 1) (addD an ad k 1) ∧ flo (addN an ad k 1) (addD an ad k 1) = flo an ad + k := by
  obtain ⟨ha, hk, hx, hv⟩ := add_val h
  refine ⟨hx, ?_⟩
  generalize addN an ad k 1 = xn at *
  generalize addD an ad k 1 = xd at *
  obtain ⟨b1, b2⟩ := flo_bound (n := an) ha.d1
  refine flo_uniq hx.d1 ?_ ?_
  · have h1 := Int.mul_le_mul_of_nonneg_right (c := xd) b1 (by have := hx.d1; omega)
    have h2 : (flo an ad + k) * xd * ad ≤ xn * ad := by grind
    exact Int.le_of_mul_le_mul_right h2 ha.pos
  · have h1 := Int.mul_lt_mul_of_pos_right b2 hx.pos
    have h2 : xn * ad < (flo an ad + k + 1) * xd * ad := by grind
    exact Int.lt_of_mul_lt_mul_right h2 (Int.le_of_lt ha.pos)
/-- P27, its second half -/
theorem flo_neg (ha : Ok an ad) : flo (0 - an) ad = 0 - flo an ad - min 1 (ad - 1) := by
  obtain ⟨b1, b2⟩ := flo_bound (n := an) ha.d1
  have hd := ha.d1
  by_cases h1 : ad = 1
  · subst h1
    rw [flo_one, flo_one]
    omega
  · have hm : min 1 (ad - 1) = 1 := by omega
    rw [hm]
    have hne : flo an ad * ad ≠ an := by
      intro e
      have := ha.co
      rw [← e, Int.gcd_mul_left_left] at this
      omega
    refine flo_uniq hd ?_ ?_
    · grind
    · grind

/-- P18 -/
theorem mul_law (h : mulOk an ad bn bd = true) : (mulOk bn bd an ad = true ∧ mulN bn bd an ad = mulN an ad bn bd ∧ mulD bn bd an ad = mulD an ad bn bd) ∧
    (mulN an ad bn bd = 0 ↔ an = 0 ∨ bn = 0) := by
  obtain ⟨ha, hb, hx, hv⟩ := mul_val h
  generalize mulN an ad bn bd = xn at *
  generalize mulD an ad bn bd = xd at *
  refine ⟨mul_mk hb ha hx (by grind), ?_, ?_⟩
  · rintro rfl
    rw [Int.zero_mul] at hv
    have := Int.mul_eq_zero.1 hv.symm
    rcases this with h1 | h1
    · exact Int.mul_eq_zero.1 h1
    · exact absurd h1 hx.ne
  · intro h1
    have h2 : an * bn = 0 := Int.mul_eq_zero.2 h1
    rw [h2, Int.zero_mul] at hv
    rcases Int.mul_eq_zero.1 hv with h3 | h3
    · exact h3
    · exact absurd h3 (ne_mul ha.ne hb.ne)
/-- P24 -/
theorem mul_three {cn cd : Int} (h : mulOk an ad bn bd = true) (h1 : mulOk (mulN an ad bn bd) (mulD an ad bn bd) cn cd = true) (h2 : mulOk bn bd cn cd = true)
    (h3 : mulOk an ad (mulN bn bd cn cd) (mulD bn bd cn cd) = true) :
    mulN (mulN an ad bn bd) (mulD an ad bn bd) cn cd = mulN an ad (mulN bn bd cn cd) (mulD bn bd cn cd) ∧
    mulD (mulN an ad bn bd) (mulD an ad bn bd) cn cd = mulD an ad (mulN bn bd cn cd) (mulD bn bd cn cd) := by
  obtain ⟨ha, hb, ho, v0⟩ := mul_val h
  obtain ⟨_, hc, hx, v1⟩ := mul_val h1
  obtain ⟨_, _, hy, v2⟩ := mul_val h2
  obtain ⟨_, _, hz, v3⟩ := mul_val h3
  clear h h1 h2 h3
  generalize mulN (mulN an ad bn bd) (mulD an ad bn bd) cn cd = xn at *
  generalize mulD (mulN an ad bn bd) (mulD an ad bn bd) cn cd = xd at *
  generalize mulN an ad (mulN bn bd cn cd) (mulD bn bd cn cd) = zn at *
  generalize mulD an ad (mulN bn bd cn cd) (mulD bn bd cn cd) = zd at *
  generalize mulN an ad bn bd = on at *
  generalize mulD an ad bn bd = od at *
  generalize mulN bn bd cn cd = yn at *
  generalize mulD bn bd cn cd = yd at *
  refine eq_by hx hz (k := od * yd * ad * bd * cd) (ne_mul (ne_mul (ne_mul (ne_mul ho.ne hy.ne) ha.ne) hb.ne) hc.ne) ?_
  grind
/-- P17 -/
theorem sub_law (h : subOk an ad bn bd = true) : (subOk bn bd an ad = true ∧ subN bn bd an ad = 0 - subN an ad bn bd ∧ subD bn bd an ad = subD an ad bn bd) ∧
    lessB an ad bn bd = decide (subN an ad bn bd < 0) := by
  obtain ⟨ha, hb, hx, hv⟩ := sub_val h
  generalize subN an ad bn bd = xn at *
  generalize subD an ad bn bd = xd at *
  refine ⟨sub_mk hb ha (ok_neg hx) (by grind), less_eq_decide ha hb ?_⟩
  refine lt_by (k := xd) (m := ad * bd) hx.pos (pm ha.pos hb.pos) ?_
  grind
/-- P29 -/
theorem sub_self (h : subOk an ad bn bd = true) : (subOk an ad an ad = true ∧ subN an ad an ad = 0 ∧ subD an ad an ad = 1) ∧
    (subOk (subN an ad bn bd) (subD an ad bn bd) an ad = true → subN (subN an ad bn bd) (subD an ad bn bd) an ad = 0 - bn ∧ subD (subN an ad bn bd) (subD an ad bn bd) an ad = bd) := by
  obtain ⟨ha, hb, hx, hv⟩ := sub_val h
  generalize subN an ad bn bd = xn at *
  generalize subD an ad bn bd = xd at *
  refine ⟨sub_mk ha ha (ok_int 0 (by omega) (by omega)) (by grind), fun h2 => ?_⟩
  refine (sub_mk hx ha (ok_neg hb) ?_).2
  refine Int.eq_of_mul_eq_mul_right (ne_mul ha.ne hb.ne) ?_
  grind
/-- P19 -/
theorem mul_over {cn cd : Int} (h : mulOk an ad bn bd = true) (h1 : addOk bn bd cn cd = true) (h2 : mulOk an ad (addN bn bd cn cd) (addD bn bd cn cd) = true) (h3 : mulOk an ad cn cd = true)
    (h4 : addOk (mulN an ad bn bd) (mulD an ad bn bd) (mulN an ad cn cd) (mulD an ad cn cd) = true) :
    mulN an ad (addN bn bd cn cd) (addD bn bd cn cd) = addN (mulN an ad bn bd) (mulD an ad bn bd) (mulN an ad cn cd) (mulD an ad cn cd) ∧
    mulD an ad (addN bn bd cn cd) (addD bn bd cn cd) = addD (mulN an ad bn bd) (mulD an ad bn bd) (mulN an ad cn cd) (mulD an ad cn cd) := by
  obtain ⟨ha, hb, ho, v0⟩ := mul_val h
  obtain ⟨_, hc, hs, v1⟩ := add_val h1
  obtain ⟨_, _, hx, v2⟩ := mul_val h2
  obtain ⟨_, _, hy, v3⟩ := mul_val h3
  obtain ⟨_, _, hz, v4⟩ := add_val h4
  clear h h1 h2 h3 h4
  generalize mulN an ad (addN bn bd cn cd) (addD bn bd cn cd) = xn at *
  generalize mulD an ad (addN bn bd cn cd) (addD bn bd cn cd) = xd at *
  generalize addN (mulN an ad bn bd) (mulD an ad bn bd) (mulN an ad cn cd) (mulD an ad cn cd) = zn at *
  generalize addD (mulN an ad bn bd) (mulD an ad bn bd) (mulN an ad cn cd) (mulD an ad cn cd) = zd at *
  generalize mulN an ad bn bd = on at *
  generalize mulD an ad bn bd = od at *
  generalize addN bn bd cn cd = sn at *
  generalize addD bn bd cn cd = sd at *
  generalize mulN an ad cn cd = yn at *
  generalize mulD an ad cn cd = yd at *
  refine eq_by hx hz (k := od * yd * sd * ad * bd * cd) (ne_mul (ne_mul (ne_mul (ne_mul (ne_mul ho.ne hy.ne) hs.ne) ha.ne) hb.ne) hc.ne) ?_
  grind
/-- P25 -/
theorem add_none (h : addOk an ad bn bd = true) : (addOk (addN an ad bn bd) (addD an ad bn bd) 0 1 = true ∧ addN (addN an ad bn bd) (addD an ad bn bd) 0 1 = addN an ad bn bd ∧ addD (addN an ad bn bd) (addD an ad bn bd) 0 1 = addD an ad bn bd) ∧
    lessB (addN an ad bn bd) (addD an ad bn bd) an ad = decide (bn < 0) := by
  obtain ⟨ha, hb, hx, hv⟩ := add_val h
  generalize addN an ad bn bd = xn at *
  generalize addD an ad bn bd = xd at *
  refine ⟨add_mk hx (ok_int 0 (by omega) (by omega)) hx (by grind), less_eq_decide hx ha ?_⟩
  refine lt_by (k := bd) (m := ad * xd) hb.pos (pm ha.pos hx.pos) ?_
  grind
/-- P20 -/
theorem div_law (h : divOk an ad bn bd = true) : (mulOk (divN an ad bn bd) (divD an ad bn bd) bn bd = true ∧ mulN (divN an ad bn bd) (divD an ad bn bd) bn bd = an ∧ mulD (divN an ad bn bd) (divD an ad bn bd) bn bd = ad) ∧
    (divOk bn bd an ad = true → mulOk (divN bn bd an ad) (divD bn bd an ad) (divN an ad bn bd) (divD an ad bn bd) = true ∧
      mulN (divN bn bd an ad) (divD bn bd an ad) (divN an ad bn bd) (divD an ad bn bd) = 1 ∧ mulD (divN bn bd an ad) (divD bn bd an ad) (divN an ad bn bd) (divD an ad bn bd) = 1) := by
  obtain ⟨ha, hb, hx, hv, hn⟩ := div_val h
  generalize divN an ad bn bd = xn at *
  generalize divD an ad bn bd = xd at *
  refine ⟨mul_mk hx hb ha ?_, fun h2 => ?_⟩
  · grind
  · obtain ⟨_, _, hy, hw, hm⟩ := div_val h2
    refine mul_mk hy hx (ok_int 1 (by omega) (by omega)) ?_
    refine Int.eq_of_mul_eq_mul_right (ne_mul (ne_mul ha.ne hb.ne) (ne_mul hn hm)) ?_
    generalize divN bn bd an ad = yn at *
    generalize divD bn bd an ad = yd at *
    grind
/-- P28 -/
theorem div_mul (h : divOk an ad bn bd = true) (h1 : divOk 1 1 bn bd = true) : mulOk an ad (divN 1 1 bn bd) (divD 1 1 bn bd) = true ∧
    mulN an ad (divN 1 1 bn bd) (divD 1 1 bn bd) = divN an ad bn bd ∧ mulD an ad (divN 1 1 bn bd) (divD 1 1 bn bd) = divD an ad bn bd := by
  obtain ⟨ha, hb, hx, hv, hn⟩ := div_val h
  obtain ⟨_, _, hy, hw, _⟩ := div_val h1
  generalize divN an ad bn bd = xn at *
  generalize divD an ad bn bd = xd at *
  generalize divN 1 1 bn bd = yn at *
  generalize divD 1 1 bn bd = yd at *
  refine mul_mk ha hy hx ?_
  refine Int.eq_of_mul_eq_mul_right (ne_mul hn hy.ne) ?_
  grind
/-- P26 -/
theorem less_add {cn cd : Int} (h : lessB an ad bn bd = true) (h1 : addOk an ad cn cd = true) (h2 : addOk bn bd cn cd = true) :
    lessB (addN an ad cn cd) (addD an ad cn cd) (addN bn bd cn cd) (addD bn bd cn cd) = true := by
  obtain ⟨ha, hb, hv⟩ := less_val h
  obtain ⟨_, hc, hx, v1⟩ := add_val h1
  obtain ⟨_, _, hy, v2⟩ := add_val h2
  generalize addN an ad cn cd = xn at *
  generalize addD an ad cn cd = xd at *
  generalize addN bn bd cn cd = yn at *
  generalize addD bn bd cn cd = yd at *
  rw [less_iff hx hy]
  refine (lt_by (k := ad * bd * cd) (m := cd * xd * yd) (pm (pm ha.pos hb.pos) hc.pos) (pm (pm hc.pos hx.pos) hy.pos) ?_).2 hv
  grind
theorem less_mid (h : lessB an ad bn bd = true) (h1 : addOk an ad bn bd = true) (h2 : divOk (addN an ad bn bd) (addD an ad bn bd) 2 1 = true) :
    lessB an ad (divN (addN an ad bn bd) (addD an ad bn bd) 2 1) (divD (addN an ad bn bd) (addD an ad bn bd) 2 1) = true ∧
    lessB (divN (addN an ad bn bd) (addD an ad bn bd) 2 1) (divD (addN an ad bn bd) (addD an ad bn bd) 2 1) bn bd = true := by
  obtain ⟨ha, hb, hv⟩ := less_val h
  obtain ⟨_, _, hz, v1⟩ := add_val h1
  obtain ⟨_, _, hw, v2, _⟩ := div_val h2
  generalize divN (addN an ad bn bd) (addD an ad bn bd) 2 1 = wn at *
  generalize divD (addN an ad bn bd) (addD an ad bn bd) 2 1 = wd at *
  generalize addN an ad bn bd = zn at *
  generalize addD an ad bn bd = zd at *
  rw [less_iff ha hw, less_iff hw hb]
  refine ⟨(lt_by (k := zd * bd * 2) (m := zd * wd) (pm (pm hz.pos hb.pos) (by omega)) (pm hz.pos hw.pos) ?_).2 hv, (lt_by (k := zd * ad * 2) (m := zd * wd) (pm (pm hz.pos ha.pos) (by omega)) (pm hz.pos hw.pos) ?_).2 hv⟩
  · grind
  · grind
end
end Go.Proofs.YtaikebigaiimaaaDoor.Fr
