/-
  The drawing of cores.
  Conditions: the bytes can be read.
-/
import Derived.Test.YtbfcfhngfenpjaaCe
import Derived.Deep.RegionWith
namespace Go.Proofs.Ytbfcfhngfenpjaa
open Go.RowKit Co

/-- every number of the pieces is small -/
def Sml (l : List (Int × Int)) : Prop := ∀ p ∈ l, -100 ≤ p.1 ∧ p.1 ≤ 30001 ∧ -100 ≤ p.2 ∧ p.2 ≤ 30001
theorem Sml.in64 {l : List (Int × Int)} (h : Sml l) : In64 l := In64.of_mem fun p hp => by have := h p hp; unfold I64; omega
theorem Sml.nil : Sml [] := fun p hp => by cases hp
theorem Sml.snoc {l : List (Int × Int)} (h : Sml l) {x y : Int} (hx : -100 ≤ x ∧ x ≤ 30001) (hy : -100 ≤ y ∧ y ≤ 30001) : Sml (l ++ [(x, y)]) := fun p hp => by
  rcases List.mem_append.1 hp with hp | hp
  · exact h p hp
  · simp at hp; subst hp; exact ⟨hx.1, hx.2, hy.1, hy.2⟩
theorem Sml.left {l r : List (Int × Int)} (h : Sml (l ++ r)) : Sml l := fun p hp => h p (List.mem_append_left _ hp)
theorem Sml.last {l : List (Int × Int)} {q : Int × Int} (h : Sml (l ++ [q])) : -100 ≤ q.1 ∧ q.1 ≤ 30001 ∧ -100 ≤ q.2 ∧ q.2 ≤ 30001 := h q (by simp)
/-- what the call itself has made may be written: what was there ahead of it stays but for row -/
theorem grown_own {a b c : World} {row row2 : Option Nat} (h : a.grownBy b row) (k : b.grownBy c row2) (hr : ∀ j, row2 = some j → a.heap.size ≤ j) : a.grownBy c row :=
  ⟨k.os.trans h.os, k.tape.trans h.tape, k.output.trans h.output, Nat.le_trans h.size k.size, fun i hi hne => (k.block i (Nat.lt_of_lt_of_le hi h.size) (fun e => by have := hr i e.symm; omega)).trans (h.block i hi hne)⟩
theorem Rd.own {w w' : World} {g N : Nat} (h : Rd w g N) {row : Option Nat} (hg : w.grownBy w' row) (hr : ∀ k, row = some k → g < k) : Rd w' g N := by
  have hlt := h.lt
  obtain ⟨A, n, c, p, h1, h2, h3, h4⟩ := h
  refine ⟨A, n, c, p, (hg.block g hlt (fun e => by have := hr g e.symm; omega)).trans h1, h2, h3, fun hn => ?_⟩
  obtain ⟨b, off, rfl, hb, hbl, hc⟩ := h4 hn
  refine ⟨b, off, rfl, hb, Nat.lt_of_lt_of_le hbl hg.size, fun i hi => ?_⟩
  obtain ⟨u, hu, k1, k2⟩ := hc i hi
  exact ⟨u, hg.cell hu (fun e => by have := hr b e.symm; omega), k1, k2⟩
/-- a core was drawn; the reader alone has turned -/
def Cored (w : World) (g N : Nat) (e : Ending) (w' : World) : Prop :=
  ∃ v l, e = .returned v ∧ Ow w' w.heap.size v l ∧ Sml l ∧ l.length ≤ 6 ∧ Rd w' g (N + 20) ∧ w.grownBy w' (some g)
theorem Ow.read {w w' : World} {base g : Nat} {v : Value} {l : List (Int × Int)} (h : Ow w base v l) (hG : w.grownBy w' (some g)) (hg : g < base) : Ow w' base v l :=
  h.far hG (fun k hk e => by have := (h.lt k hk).1; cases e; omega)
theorem setG {w : World} (p : Addr) (u : Value) : w.grownBy (w.setCell p u) (some p.block) :=
  ⟨rfl, rfl, rfl, by simp [World.setCell], fun k _ hne => Below.heap_setCell w p u k (fun e => hne (by rw [e]))⟩
theorem max_b (z : Int) (h1 : 0 ≤ z) (h2 : z < 30) : 0 ≤ max 0 (z - 12) ∧ max 0 (z - 12) ≤ 17 := by omega

set_option maxHeartbeats 8000000 in
theorem core_any (g N : Nat) (w : World) (h : Rd w g N) (hN : N ≤ 999900) :
    Calls Try.prog 43 #[.pointer (some ⟨g, 0, none⟩)] w (Cored w g N) := by
  obtain ⟨i0, hi0, hz0, hz1, hz2⟩ := info_parts info_piece
  have hlt := h.lt
  have H := hide (h.alloc (.cells #[] 32))
  have O0 : Hid (Ow (w.alloc (.cells #[] 32)) w.heap.size (.slice (some ⟨w.heap.size, 0, none⟩) 0 0) []) := World.ownsRow_made w #[] 0 (Nat.le_refl _) (Nat.zero_le _) rfl
  clear h
  go_enter Try.func43, Try.ntmps43
  go_wp2_with fail
  refine (pick_any g N 5 _ H.out (by omega) (by omega) (by omega)).mono ?_
  rintro e w1 ⟨z, rfl, hz01, hz02, hR, hG⟩
  have R1 := hide hR
  have O1 := hide (O0.out.read hG hlt)
  have G1 := hide (grown_trans (World.grownBy_alloc w _ (some g)) hG)
  clear hR hG
  go_wp2_with fail
  refine (pick_any g (N + 1) 6 _ R1.out (by omega) (by omega) (by omega)).mono ?_
  rintro e w2 ⟨n, rfl, hn1, hn2, hR, hG⟩
  obtain ⟨n, rfl⟩ := Int.eq_ofNat_of_zero_le hn1
  have R2 := hide hR
  have O2 := hide (O1.out.read hG hlt)
  have G2 := hide (grown_trans G1.out hG)
  clear hR hG
  go_wp2
  go_loopw [3, 4, 6] (fun v d i wr => ∃ (k : Nat) (z : Int) (l : List (Int × Int)), d = .int .i64 z ∧ i = .int .i64 k ∧ k ≤ n ∧ l.length = k ∧ 0 ≤ z ∧ z ≤ 40 + 80 * k ∧ Sml l ∧ Ow wr w.heap.size v l ∧ Rd wr g (N + 2 + 2 * k) ∧ w.grownBy wr (some g)) (fun _ _ i _ => n - (intOf i).toNat)
  case atStart => exact ⟨0, _, [], rfl, rfl, Nat.zero_le _, rfl, by omega, by omega, Sml.nil, O2.out, R2.out, G2.out⟩
  case round =>
    obtain ⟨k, z, l, rfl, rfl, hk, hl, hz0', hz1', hS, hO, hR, hG⟩ := hrel
    have hn6 : n ≤ 5 := by omega
    have OW := hide hO
    have RW := hide hR
    have GW := hide hG
    have SW := hide hS
    have LW := hide hl
    have hl6 : l.length ≤ 5 := by omega
    have hsz : w.heap.size ≤ wr.heap.size := GW.out.size
    clear hO hR hG hS hl
    by_cases hkn : k < n
    · go_wp2_with fail
      refine (pick_any g (N + 2 + 2 * k) 60 _ RW.out (by omega) (by omega) (by omega)).mono ?_
      rintro e w3 ⟨b, rfl, hb1, hb2, hR, hG⟩
      have R3 := hide hR
      have O3 := hide (OW.out.read hG hlt)
      have G3 := hide (grown_trans GW.out hG)
      have hs3 : w.heap.size ≤ w3.heap.size := G3.out.size
      have F0 : Hid ((w3.alloc (.cells #[.int .i64 z, .int .i64 (z + 1 + b)] 32)).cell? ⟨w3.heap.size, 0, none⟩ = some (.int .i64 z)) := by show _ = _; go_simp
      have F1 : Hid ((w3.alloc (.cells #[.int .i64 z, .int .i64 (z + 1 + b)] 32)).cell? ⟨w3.heap.size, 1, none⟩ = some (.int .i64 (z + 1 + b))) := by show _ = _; go_simp
      have hw3 : w3.heap.size < (w3.alloc (.cells #[.int .i64 z, .int .i64 (z + 1 + b)] 32)).heap.size := by simp
      have hgw3 : w3.heap.size ≠ g := by omega
      have hpne : Hid (some w3.heap.size ≠ u3.ownBlock) := fun e => by have := (O3.out.lt _ e.symm).2; omega
      clear hR hG
      go_upto_region 8 with fail
      generalize hwq : World.alloc w3 _ = wq at F0 F1 hw3 ⊢
      have O4 : Hid (Ow wq w.heap.size u3 l) := by show Ow _ _ _ _; rw [← hwq]; exact O3.out.alloc _
      have R4 : Hid (Rd wq g (N + 2 + 2 * k + 1)) := by show Rd _ _ _; rw [← hwq]; exact R3.out.alloc _
      have G4 : Hid (w.grownBy wq (some g)) := by show World.grownBy _ _ _; rw [← hwq]; exact grown_alloc G3.out _
      have f0 := F0.out
      have f1 := F1.out
      have hlq : w3.heap.size < wq.heap.size := hw3
      have hsq : w.heap.size ≤ wq.heap.size := G4.out.size
      have hbg := hide (fun k hk => (O4.out.lt k hk).1)
      clear hwq O3 R3 G3
      go_wp2_with (at_builtin; refine wpList_append_lies _ rfl (.tmp 26) (.tmp 28) 25 rfl w.heap.size 32 i0 _ 2 16 Try.underlying25 hi0 hz0 hz1 hz2 rfl (by omega) _ (l.length) (fl l) rfl (World.ownsRow.alloc O4.out _) ⟨wq.heap.size, 0, none⟩ 1 1 [.int .i64 z, .int .i64 (z + 1 + b)] rfl rfl (World.news_of_block (cs := #[.int .i64 z, .int .i64 (z + 1 + b)]) (t := 32) (fr := (0, 0)) (heap_alloc_new wq _)) (by simp [Value.oneCell']) (by omega) (by unfold maxLen; omega) (by omega) (by simp; omega) ((World.alloc wq _).heap.size) rfl ?_; intro gg cap' w5 hown1 hgrow hat hltg)
      have O5 := hide (Ow.app (acc := l) hown1)
      have G5 := hide (grown_own (grown_alloc G4.out _) hgrow hbg.out)
      have R5 := hide ((R4.out.alloc _).own hgrow (fun j hj => Nat.lt_of_lt_of_le hlt (hbg.out j hj)))
      have S5 := hide (SW.out.snoc (x := z) (y := z + 1 + b) (by omega) (by omega))
      have Y1 : Hid (w5.cell? ⟨w3.heap.size, 1, none⟩ = some (.int .i64 (z + 1 + b))) := hgrow.cell ((World.cell?_alloc_lt wq _ _ hlq).trans f1) hpne.out
      have R5d : Hid (Rd w5.drew g (N + 2 + 2 * k + 1)) := R5.out
      clear hown1 hgrow hat hltg f0 f1
      go_wp2_with fail
      have y1 := Y1.out
      have G0 := hide (World.grownBy.refl w5 (some g))
      go_region_with ((go_at_call 44; refine (pick_any g (N + 2 + 2 * k + 1) 30 w5.drew R5d.out (by omega) (by omega) (by omega)).mono ?_; rintro e wx ⟨q, rfl, hq1, hq2, hR, hG⟩; have y2 : wx.cell? ⟨w3.heap.size, 1, none⟩ = some (.int .i64 (z + 1 + b)) := old_cell (W := w5.drew) hG y1 hgw3; have RR := hide hR; have GG := hide hG; have mb := max_b q hq1 hq2; have e1 : IntKind.i64.wrap (q - 12) = q - 12 := IntWalk.i64_in _ (by omega); have e2 : IntKind.i64.wrap (z + 1 + b + max 0 (q - 12)) = z + 1 + b + max 0 (q - 12) := IntWalk.i64_in _ (by omega); clear hR hG))
      all_goals
        clear e1 e2
        go_wp2
        go_roundw
        case rel => exact ⟨k + 1, _, _, rfl, by go_num, by omega, by rw [List.length_append, LW.out]; rfl, by omega, by omega, S5.out, (O5.out.drew).read GG.out hlt, RR.out.mono (by omega), grown_trans (grown_drew G5.out) GG.out⟩
        case measure => simp [intOf]; omega
    · obtain rfl : k = n := by omega
      rcases k with _ | m
      · go_wp2
        go_ret
        exact ⟨_, l, rfl, OW.out, SW.out, by omega, RW.out.mono (by omega), GW.out⟩
      · obtain ⟨qs, q, rfl⟩ : ∃ qs q, l = qs ++ [q] := ⟨l.dropLast, l.getLast (by rintro rfl; simp [Hid] at LW), (List.dropLast_concat_getLast _).symm⟩
        obtain rfl : qs.length = m := by have := LW.out; simpa using this
        obtain ⟨gg, cap, rfl, hg1, hg2, hgc, hgf⟩ := OW.out.form_snoc
        obtain ⟨c0, _, _, _⟩ := Ow.cells (cap := cap) (by have := OW.out; rw [show (qs ++ [q]).length = qs.length + 1 from by simp]; exact this) qs.length (by simp)
        obtain ⟨a0, a1, _, _⟩ := Ow.cells (cap := cap) (by have := OW.out; rw [show (qs ++ [q]).length = qs.length + 1 from by simp]; exact this) 0 (by simp)
        have hq0 : (qs ++ [q])[qs.length]'(by simp) = q := by simp
        obtain ⟨p0, hp0⟩ : ∃ p, (qs ++ [q])[0]'(by simp) = p := ⟨_, rfl⟩
        have hpm : p0 ∈ qs ++ [q] := by rw [← hp0]; exact List.getElem_mem _
        rw [hq0] at c0
        rw [hp0] at a0 a1
        obtain ⟨qa, qz⟩ := q
        obtain ⟨pa, pz⟩ := p0
        simp only [Nat.zero_mul, Nat.zero_add] at a0 a1
        have sq := SW.out.last
        have sp := SW.out _ hpm
        dsimp only at c0 hgc a0 a1 sq sp
        have hgg : gg ≠ g := by omega
        have hlg : g < gg := by omega
        have hj1 : (0 : Int) ≤ (qs.length : Int) := by omega
        have K0 := hide c0
        have K1 := hide hgc
        have K2 := hide hgf
        have K3 := hide a0
        have K4 := hide a1
        clear c0 hgc hgf a0 a1 hq0 hp0 hpm
        go_wp2_with fail
        refine (pick_any g _ 40 _ RW.out (by omega) (by omega) (by omega)).mono ?_
        rintro e w3 ⟨y, rfl, hy1, hy2, hR, hG⟩
        have R3 := hide (hR.mono (show _ ≤ N + 20 by omega))
        have O3 := hide (OW.out.read hG hlt)
        have G3 := hide (grown_trans GW.out hG)
        have k0 := old_cell hG K0.out hgg
        have k1 := old_cell hG K1.out hgg
        have k2 := old_frozen hG K1.out K2.out hgg
        have k3 := old_cell hG K3.out hgg
        have k4 := old_cell hG K4.out hgg
        have hs3 : w.heap.size ≤ w3.heap.size := G3.out.size
        have SL := hide SW.out.left
        have ql : (qs ++ [(qa, qz)]).length ≤ 5 := hl6
        have ql2 : qs.length + 1 ≤ 5 := by simpa using hl6
        clear hR hG hl6
        by_cases y0 : y = 0
        · subst y0
          go_wp2
          go_ret
          exact ⟨_, qs ++ [(qa, qa)], rfl, Ow.last O3.out qa, SL.out.snoc (by omega) (by omega), by simp; omega, R3.out.setNew hlg _, grown_own G3.out (setG _ _) (fun j hj => by cases hj; exact hg1)⟩
        · have b0 : (y == 0) = false := by simpa using y0
          by_cases y1 : y = 1
          · subst y1
            go_wp2
            go_ret
            exact ⟨_, qs ++ [(qa, 30001)], rfl, Ow.last O3.out 30001, SL.out.snoc (by omega) (by omega), by simp; omega, R3.out.setNew hlg _, grown_own G3.out (setG _ _) (fun j hj => by cases hj; exact hg1)⟩
          · have b1 : (y == 1) = false := by simpa using y1
            by_cases y2 : y = 2
            · subst y2
              have e1 : (qs ++ [(qa, qz)]).length = qs.length + 1 := by simp
              have O5 : Hid (w3.ownsRow w.heap.size 32 2 (.slice (some ⟨gg, 0, none⟩) (qs.length + 1) cap) (qs.length + 1) (fl (qs ++ [(qa, qz)]))) := by have := O3.out; unfold Ow at this; rw [e1] at this; exact this
              clear e1
              go_wp2_with (at_builtin; refine wpList_append_lies _ rfl (.tmp 63) (.tmp 67) 25 rfl w.heap.size 32 i0 _ 2 16 Try.underlying25 hi0 hz0 hz1 hz2 rfl (by omega) _ (qs.length + 1) (fl (qs ++ [(qa, qz)])) rfl (World.ownsRow.alloc O5.out _) ⟨w3.heap.size, 0, none⟩ 1 1 [.int .i64 pa, .int .i64 pz] rfl rfl (World.news_of_block (cs := #[.int .i64 pa, .int .i64 pz]) (t := 32) (fr := (0, 0)) (heap_alloc_new w3 _)) (by simp [Value.oneCell']) (by omega) (by unfold maxLen; omega) (by omega) (by simp; omega) ((World.alloc w3 _).heap.size) rfl ?_; intro g' cap' w5 hown1 hgrow hat hltg)
              have O6 : Hid (Ow w5 w.heap.size (.slice (some ⟨g', 0, none⟩) (qs.length + 1 + 1) cap') ((qs ++ [(qa, qz)]) ++ [(pa, pz)])) := Ow.app (acc := qs ++ [(qa, qz)]) (by rw [show (qs ++ [(qa, qz)]).length = qs.length + 1 from by simp]; exact hown1)
              have hown := (fun j (hj : (Value.slice (some ⟨gg, 0, none⟩) (qs.length + 1) cap).ownBlock = some j) => show w.heap.size ≤ j by cases hj; exact hg1)
              have G6 := hide (grown_own (grown_alloc G3.out _) hgrow hown)
              have R6 := hide ((R3.out.alloc _).own hgrow (fun j hj => Nat.lt_of_lt_of_le hlt (hown j hj)))
              clear hown1 hgrow hat hltg hown
              go_wp2
              go_ret
              exact ⟨_, _, rfl, O6.out, SW.out.snoc (by omega) (by omega), by simp; omega, R6.out, G6.out⟩
            · have b2 : (y == 2) = false := by simpa using y2
              go_wp2
              go_ret
              exact ⟨_, _, rfl, O3.out, SW.out, by omega, R3.out, G3.out⟩


theorem Ow.base {w : World} {B B' : Nat} {v : Value} {l : List (Int × Int)} (h : Ow w B v l) (hB : B' ≤ B) : Ow w B' v l := by
  refine ⟨h.1, ?_⟩
  rcases h.2 with h0 | ⟨g, cap, cur, rfl, hb, r⟩
  · exact .inl h0
  · exact .inr ⟨g, cap, cur, rfl, Nat.le_trans hB hb, r⟩
theorem belowG {w w1 w2 : World} {g : Nat} (h : Below w.heap.size w w1) (hg : w.heap.size ≤ g) (k : w1.grownBy w2 (some g)) : Below w.heap.size w w2 :=
  h.grown k h.size (fun _ e => by cases e; exact hg)
/-- every number of the pieces is not great -/
def Sm2 (l : List (Int × Int)) : Prop := ∀ p ∈ l, -200 ≤ p.1 ∧ p.1 ≤ 30001 ∧ -200 ≤ p.2 ∧ p.2 ≤ 30001
theorem Sml.two {l : List (Int × Int)} (h : Sml l) : Sm2 l := fun p hp => by have := h p hp; omega
theorem Sm2.in64 {l : List (Int × Int)} (h : Sm2 l) : In64 l := In64.of_mem fun p hp => by have := h p hp; unfold I64; omega
/-- a core was drawn; nothing older has turned -/
def DrawnC (w : World) (e : Ending) (w' : World) : Prop :=
  ∃ v l, e = .returned v ∧ Ow w' w.heap.size v l ∧ Sm2 l ∧ l.length ≤ 6 ∧ Below w.heap.size w w'
/-- a core and a depth were drawn; nothing older has turned -/
def DrawnCD (w : World) (e : Ending) (w' : World) : Prop :=
  ∃ v l d, e = .returned (.tuple #[v, .int .i64 d]) ∧ Ow w' w.heap.size v l ∧ Sm2 l ∧ l.length ≤ 6 ∧ (-1000 ≤ d ∧ d ≤ 100000) ∧ Below w.heap.size w w'
/-- a core and a depth were drawn; the reader alone has turned -/
def Withined (w : World) (g : Nat) (e : Ending) (w' : World) : Prop :=
  ∃ v l d, e = .returned (.tuple #[v, .int .i64 d]) ∧ Ow w' w.heap.size v l ∧ Sml l ∧ l.length ≤ 6 ∧ (-1000 ≤ d ∧ d ≤ 100000) ∧ w.grownBy w' (some g)

set_option maxHeartbeats 1000000 in
theorem dDrawCoreLength (a : Option Addr) (len cap : Nat) (w : World) (h : Code w a len cap) : Calls Try.prog 27 #[.slice a len cap] w (DrawnC w) := by
  have H := hide h
  clear h
  go_enter Try.func27, Try.ntmps27
  go_wp2_with fail
  refine (open_any a len cap _ H.out).mono ?_
  rintro e w1 ⟨g, rfl, hg, hR, hB⟩
  have R1 := hide hR
  have B1 := hide hB
  clear hR hB
  go_wp2_with fail
  refine (core_any g 0 _ R1.out (by omega)).mono ?_
  rintro e w2 ⟨v, l, rfl, hO, hS, hl, hR, hG⟩
  have O2 := hide (hO.base B1.out.size)
  have S2 := hide hS
  have L2 := hide hl
  have B2 := hide (belowG B1.out hg hG)
  clear hO hS hR hG hl
  go_wp2
  go_ret
  exact ⟨v, l, rfl, O2.out, S2.out.two, L2.out, B2.out⟩

set_option maxHeartbeats 1000000 in
theorem dDrawCoreGaps (a : Option Addr) (len cap : Nat) (w : World) (h : Code w a len cap) : Calls Try.prog 29 #[.slice a len cap] w (DrawnC w) := by
  have H := hide h
  clear h
  go_enter Try.func29, Try.ntmps29
  go_wp2_with fail
  refine (open_any a len cap _ H.out).mono ?_
  rintro e w1 ⟨g, rfl, hg, hR, hB⟩
  have R1 := hide hR
  have B1 := hide hB
  clear hR hB
  go_wp2_with fail
  refine (core_any g 0 _ R1.out (by omega)).mono ?_
  rintro e w2 ⟨v, l, rfl, hO, hS, hl, hR, hG⟩
  have O2 := hide (hO.base B1.out.size)
  have S2 := hide hS
  have L2 := hide hl
  have B2 := hide (belowG B1.out hg hG)
  clear hO hS hR hG hl
  go_wp2
  go_ret
  exact ⟨v, l, rfl, O2.out, S2.out.two, L2.out, B2.out⟩

set_option maxHeartbeats 4000000 in
theorem within_any (g N : Nat) (w : World) (h : Rd w g N) (hN : N ≤ 999800) :
    Calls Try.prog 47 #[.pointer (some ⟨g, 0, none⟩)] w (Withined w g) := by
  have hlt := h.lt
  have H := hide h
  clear h
  go_enter Try.func47, Try.ntmps47
  go_wp2_with fail
  refine (core_any g N _ H.out (by omega)).mono ?_
  rintro e w1 ⟨v, l, rfl, hO, hS, hl, hR, hG⟩
  have O1 := hide hO
  have S1 := hide hS
  have R1 := hide hR
  have G1 := hide hG
  have L1 := hide hl
  have hs1 : w.heap.size ≤ w1.heap.size := G1.out.size
  clear hR hG hS hl
  rcases hO.form with ⟨rfl, rfl⟩ | ⟨gg, cap, rfl, hg1, hg2, _, _⟩
  · clear hO
    go_wp2_with fail
    refine (pick_any g (N + 20) 200 _ R1.out (by omega) (by omega) (by omega)).mono ?_
    rintro e w2 ⟨x, rfl, hx1, hx2, hR, hG⟩
    have R2 := hide hR
    have O2 := hide (O1.out.read hG hlt)
    have G2 := hide (grown_trans G1.out hG)
    clear hR hG
    go_wp2_with fail
    refine (pick_any g (N + 20 + 1) 10 _ R2.out (by omega) (by omega) (by omega)).mono ?_
    rintro e w3 ⟨y, rfl, hy1, hy2, hR, hG⟩
    have O3 := hide (O2.out.read hG hlt)
    have G3 := hide (grown_trans G2.out hG)
    clear hR hG
    go_wp2
    go_ret2
    exact ⟨_, [], _, rfl, O3.out, Sml.nil, by simp, by omega, G3.out⟩
  · clear hO
    by_cases hl0 : l.length = 0
    · have hl1 : l = [] := List.eq_nil_of_length_eq_zero hl0
      subst hl1
      go_wp2_with fail
      refine (pick_any g (N + 20) 200 _ R1.out (by omega) (by omega) (by omega)).mono ?_
      rintro e w2 ⟨x, rfl, hx1, hx2, hR, hG⟩
      have R2 := hide hR
      have O2 := hide (O1.out.read hG hlt)
      have G2 := hide (grown_trans G1.out hG)
      clear hR hG
      go_wp2_with fail
      refine (pick_any g (N + 20 + 1) 10 _ R2.out (by omega) (by omega) (by omega)).mono ?_
      rintro e w3 ⟨y, rfl, hy1, hy2, hR, hG⟩
      have O3 := hide (O2.out.read hG hlt)
      have G3 := hide (grown_trans G2.out hG)
      clear hR hG
      go_wp2
      go_ret2
      exact ⟨_, [], _, rfl, O3.out, Sml.nil, by simp, by omega, G3.out⟩
    · have hb0 : ((l.length : Int) == 0) = false := by rw [beq_eq_false_iff_ne]; omega
      have hlp : (1 : Int) ≤ (l.length : Int) := by omega
      have hl6 : l.length ≤ 6 := L1.out
      go_wp2_with fail
      refine (pick_any g (N + 20) 6 _ R1.out (by omega) (by omega) (by omega)).mono ?_
      rintro e w2 ⟨c, rfl, hc1, hc2, hR, hG⟩
      have R2 := hide hR
      have O2 := hide (O1.out.read hG hlt)
      have G2 := hide (grown_trans G1.out hG)
      clear hR hG
      by_cases hc0 : c = 0
      · subst hc0
        go_wp2_with fail
        refine (pick_any g (N + 20 + 1) 200 _ R2.out (by omega) (by omega) (by omega)).mono ?_
        rintro e w3 ⟨x, rfl, hx1, hx2, hR, hG⟩
        have R3 := hide hR
        have O3 := hide (O2.out.read hG hlt)
        have G3 := hide (grown_trans G2.out hG)
        clear hR hG
        go_wp2_with fail
        refine (pick_any g (N + 20 + 1 + 1) 10 _ R3.out (by omega) (by omega) (by omega)).mono ?_
        rintro e w4 ⟨y, rfl, hy1, hy2, hR, hG⟩
        have O4 := hide (O3.out.read hG hlt)
        have G4 := hide (grown_trans G3.out hG)
        clear hR hG
        go_wp2
        go_ret2
        exact ⟨_, l, _, rfl, O4.out, S1.out, L1.out, by omega, G4.out⟩
      · have hcb : (c == 0) = false := by simpa using hc0
        go_wp2_with fail
        refine (pick_any g (N + 20 + 1) (l.length : Int) _ R2.out (by omega) (by omega) (by omega)).mono ?_
        rintro e w3 ⟨i, rfl, hi1, hi2, hR, hG⟩
        obtain ⟨i, rfl⟩ := Int.eq_ofNat_of_zero_le hi1
        have hil : i < l.length := by omega
        have R3 := hide hR
        have O3 := hide (O2.out.read hG hlt)
        have G3 := hide (grown_trans G2.out hG)
        clear hR hG
        obtain ⟨c0, c1, _, _⟩ := Ow.cells O3.out i hil
        obtain ⟨p, hp⟩ : ∃ p, l[i] = p := ⟨_, rfl⟩
        have sp := S1.out p (by rw [← hp]; exact List.getElem_mem _)
        rw [hp] at c0 c1
        obtain ⟨x, y⟩ := p
        dsimp only at c0 c1 sp
        have hs3 : w.heap.size ≤ w3.heap.size := G3.out.size
        have hgw3 : w3.heap.size ≠ g := by omega
        have R4 := hide (R3.out.alloc (.cells #[.int .i64 x, .int .i64 y] 32))
        have F0 : Hid ((w3.alloc (.cells #[.int .i64 x, .int .i64 y] 32)).cell? ⟨w3.heap.size, 0, none⟩ = some (.int .i64 x)) := by show _ = _; go_simp
        have F1 : Hid ((w3.alloc (.cells #[.int .i64 x, .int .i64 y] 32)).cell? ⟨w3.heap.size, 1, none⟩ = some (.int .i64 y)) := by show _ = _; go_simp
        clear hp
        go_wp2_with fail
        generalize hwq : World.alloc w3 _ = wq at R4 F0 F1 ⊢
        have O4 : Hid (Ow wq w.heap.size (.slice (some ⟨gg, 0, none⟩) l.length cap) l) := by show Ow _ _ _ _; rw [← hwq]; exact O3.out.alloc _
        have G4 : Hid (w.grownBy wq (some g)) := by show World.grownBy _ _ _; rw [← hwq]; exact grown_alloc G3.out _
        have R4d : Hid (Rd wq.drew g (N + 20 + 1 + 1)) := R4.out
        have f0 := F0.out
        have f1 := F1.out
        clear hwq R3 O3 G3 c0 c1
        have mx : 1 ≤ max 1 (y - x + 1) ∧ max 1 (y - x + 1) ≤ 40000 := by omega
        have e1 : IntKind.i64.wrap (y - x) = y - x := IntWalk.i64_in _ (by omega)
        have e2 : IntKind.i64.wrap (y - x + 1) = y - x + 1 := IntWalk.i64_in _ (by omega)
        go_region_with ((go_at_call 44; refine (pick_any g (N + 20 + 1 + 1) (max 1 (y - x + 1)) wq.drew R4d.out (by omega) (by omega) (by omega)).mono ?_; rintro e wx ⟨q, rfl, hq1, hq2, hR, hG⟩; have y0 : wx.cell? ⟨w3.heap.size, 0, none⟩ = some (.int .i64 x) := old_cell (W := wq.drew) hG f0 hgw3; have y1 : wx.cell? ⟨w3.heap.size, 1, none⟩ = some (.int .i64 y) := old_cell (W := wq.drew) hG f1 hgw3; have GG := hide hG; have e3 : IntKind.i64.wrap (x + q) = x + q := IntWalk.i64_in _ (by omega); clear hR hG))
        all_goals
          clear e1 e2 e3
          go_wp2
          go_ret2
          exact ⟨_, l, _, rfl, (O4.out.drew).read GG.out hlt, S1.out, L1.out, by omega, grown_trans (grown_drew G4.out) GG.out⟩

set_option maxHeartbeats 1000000 in
theorem dDrawCoreHas (a : Option Addr) (len cap : Nat) (w : World) (h : Code w a len cap) : Calls Try.prog 26 #[.slice a len cap] w (DrawnCD w) := by
  have H := hide h
  clear h
  go_enter Try.func26, Try.ntmps26
  go_wp2_with fail
  refine (open_any a len cap _ H.out).mono ?_
  rintro e w1 ⟨g, rfl, hg, hR, hB⟩
  have R1 := hide hR
  have B1 := hide hB
  clear hR hB
  go_wp2_with fail
  refine (within_any g 0 _ R1.out (by omega)).mono ?_
  rintro e w2 ⟨v, l, d, rfl, hO, hS, hl, hd, hG⟩
  have O2 := hide (hO.base B1.out.size)
  have S2 := hide hS
  have L2 := hide hl
  have D2 := hide hd
  have B2 := hide (belowG B1.out hg hG)
  clear hO hS hG hl hd
  go_wp2
  go_ret2
  exact ⟨v, l, d, rfl, O2.out, S2.out.two, L2.out, D2.out, B2.out⟩

set_option maxHeartbeats 4000000 in
theorem dDrawCoreValid (a : Option Addr) (len cap : Nat) (w : World) (h : Code w a len cap) : Calls Try.prog 21 #[.slice a len cap] w (DrawnC w) := by
  have H := hide h
  clear h
  go_enter Try.func21, Try.ntmps21
  go_wp2_with fail
  refine (open_any a len cap _ H.out).mono ?_
  rintro e w1 ⟨g, rfl, hg, hR, hB⟩
  have R1 := hide hR
  have B1 := hide hB
  have hlt := R1.out.lt
  clear hR hB
  go_wp2_with fail
  refine (core_any g 0 _ R1.out (by omega)).mono ?_
  rintro e w2 ⟨v, l, rfl, hO, hS, hl, hR, hG⟩
  have O2 := hide hO
  have S2 := hide hS
  have L2 := hide hl
  have R2 := hide hR
  have G2 := hide hG
  have B2 := hide (belowG B1.out hg hG)
  have hb1 : w.heap.size ≤ w1.heap.size := B1.out.size
  clear hS hR hG hl
  obtain ⟨ao, cp, rfl⟩ := hO.shape
  clear hO
  by_cases hl1 : 1 < l.length
  · have hl2 : (1 : Int) < (l.length : Int) := by omega
    go_wp2_with fail
    refine (pick_any g (0 + 20) 6 _ R2.out (by omega) (by omega) (by omega)).mono ?_
    rintro e w3 ⟨c, rfl, hc1, hc2, hR, hG⟩
    have R3 := hide hR
    have O3 := hide (O2.out.read hG hlt)
    have B3 := hide (belowG B2.out hg hG)
    clear hR hG
    by_cases hc0 : c = 0
    · subst hc0
      rcases O3.out.form with ⟨_, h0⟩ | ⟨gg, cap', he, hg1, hg2, _, _⟩
      · exfalso; subst h0; simp at hl1
      · simp only [Value.slice.injEq] at he
        obtain ⟨rfl, _, rfl⟩ := he
        obtain ⟨c0, c1, z0, z1⟩ := Ow.cells O3.out 1 hl1
        obtain ⟨p, hp⟩ : ∃ p, l[1] = p := ⟨_, rfl⟩
        have sp := S2.out p (by rw [← hp]; exact List.getElem_mem _)
        have hset := fun t => Ow.set0 O3.out 1 hl1 t
        rw [hp] at c0
        have HP := hide hp
        obtain ⟨x, y⟩ := p
        dsimp only at c0 sp
        simp only [Nat.one_mul] at c0 z0
        have hgg : gg ≠ g := by omega
        have R3d : Hid (Rd w3.drew g (0 + 20 + 1)) := R3.out
        clear hp c1 z1 hset
        go_wp2_with fail
        go_region_with ((go_at_call 44; refine (pick_any g (0 + 20 + 1) 20 w3.drew R3d.out (by omega) (by omega) (by omega)).mono ?_; rintro e wx ⟨q, rfl, hq1, hq2, hR, hG⟩; have y0 : wx.cell? ⟨gg, 2, none⟩ = some (.int .i64 x) := old_cell (W := w3.drew) hG c0 hgg; have y1 : wx.frozen? ⟨gg, 2, none⟩ = false := old_frozen (W := w3.drew) hG c0 z0 hgg; have GG := hide hG; have e3 : IntKind.i64.wrap (x - q) = x - q := IntWalk.i64_in _ (by omega); clear hR hG))
        all_goals
          clear e3
          go_wp2
          go_ret
          refine ⟨_, l.set 1 (x - q, l[1].2), rfl, (Ow.set0 (O3.out.drew.read GG.out hlt) 1 hl1 (x - q)).base hb1, ?_, by rw [List.length_set]; exact L2.out, st_set (belowG (st_drew B3.out) hg GG.out) (by dsimp only; omega) _⟩
          intro p hp
          rcases List.mem_or_eq_of_mem_set hp with hp | rfl
          · exact S2.out.two p hp
          · rw [HP.out]; dsimp only; omega
    · have hcb : (c == 0) = false := by simpa using hc0
      go_wp2
      go_ret
      exact ⟨_, l, rfl, O3.out.base hb1, S2.out.two, L2.out, B3.out⟩
  · have hl2 : ¬ (1 : Int) < (l.length : Int) := by omega
    go_wp2
    go_ret
    exact ⟨_, l, rfl, O2.out.base hb1, S2.out.two, L2.out, B2.out⟩
end Go.Proofs.Ytbfcfhngfenpjaa

