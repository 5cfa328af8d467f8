/- Package whole: Check, Sign. -/
import Derived.Laws.StructEq
import Derived.Laws.Tables
import Derived.Test.YtaenedjanckaiaaGreatIntF
namespace Go.Proofs.YtaenedjanckaiaaGreat
set_option linter.unnecessarySimpa false
set_option linter.unusedVariables false
set_option linter.unusedSimpArgs false
open Go.RowKit

theorem empty_data {s : ByteArray} (h : s.size = 0) : s = ⟨#[]⟩ := by
  obtain ⟨d⟩ := s
  congr 1
  exact Array.eq_empty_of_size_eq_zero h
theorem toList_some {s : ByteArray} (h : s.size ≠ 0) : s.toList.isEmpty = false ∧ ¬ s.toList = [] := by
  have h2 : ¬ s.toList = [] := by
    rw [ByteArray.toList_eq]
    intro e
    have e2 : s.data.toList.length = 0 := by rw [e]; rfl
    have e3 : s.data.size = 0 := by rw [← Array.length_toList]; exact e2
    exact h e3
  exact ⟨by cases hl : s.toList with
    | nil => exact absurd hl h2
    | cons a r => rfl, h2⟩
/-- The first byte. -/
def head (s : ByteArray) : Nat := (leS s).getD (s.size - 1) 0
theorem head_eq {s : ByteArray} (h : 0 < s.size) : s[0].toNat = head s := by
  unfold head
  rw [leS_getD s _ (by omega)]
  have e : s.size - 1 - (s.size - 1) = 0 := by omega
  simp only [e]
  rfl
/-- May it be a whole number? -/
def WholeOk (b : Bool) (s : ByteArray) : Prop := (s.size = 0 ∧ b = false ∨ s.size ≠ 0 ∧ head s ≠ 0) ∧ s.size ≤ 16384

set_option maxRecDepth 100000 in
theorem Check_any {w : World} (b : Bool) (s : ByteArray) (hs : s.size ≤ maxLen) :
    Calls Tryz.prog 55 #[.agg #[.bool b, .string s]] w fun e w' => ∃ k : Int, e = .returned (.int .i64 k) ∧ (k = 0 ∧ WholeOk b s ∨ k = 2 ∧ ¬ WholeOk b s) ∧ Below w.heap.size w w' := by
  have hb : Hid (Below w.heap.size w (w.alloc (.cells #[.bool b, .string s] 23))) := (Below.refl _ _).alloc (Nat.le_refl _) _
  by_cases h0 : s.size = 0
  · obtain rfl := empty_data h0
    clear h0 hs
    cases b
    · go_enter Tryz.func55, Tryz.ntmps55
      go_wp2
      go_ret
      exact ⟨0, rfl, .inl ⟨rfl, .inl ⟨rfl, rfl⟩, by decide⟩, hb.out⟩
    · go_enter Tryz.func55, Tryz.ntmps55
      go_wp2
      go_ret
      exact ⟨2, rfl, .inr ⟨rfl, fun h => h.1.elim (fun k => Bool.noConfusion k.2) (fun k => k.1 rfl)⟩, hb.out⟩
  · obtain ⟨hE, hE2⟩ := toList_some h0
    have hp : 0 < s.size := by omega
    obtain ⟨t, ht⟩ : ∃ t, t = head s := ⟨_, rfl⟩
    have ht2 : s[0].toNat = t := by rw [ht]; exact head_eq hp
    have HW : Hid (WholeOk b s ↔ t ≠ 0 ∧ s.size ≤ 16384) := by
      unfold Hid WholeOk
      rw [ht]
      exact ⟨fun h => ⟨h.1.elim (fun k => absurd k.1 h0) (fun k => k.2), h.2⟩, fun h => ⟨.inr ⟨h0, h.1⟩, h.2⟩⟩
    have h00 : (s.size : Int) ≠ 0 := by omega
    clear ht
    by_cases hz : t = 0
    · subst hz
      go_enter Tryz.func55, Tryz.ntmps55
      go_wp2
      go_ret
      exact ⟨2, rfl, .inr ⟨rfl, fun h => (HW.out.1 h).1 rfl⟩, hb.out⟩
    · have hz1 : ((t : Int) == 0) = false := by rw [beq_eq_false_iff_ne]; omega
      by_cases hl : s.size ≤ 16384
      · go_enter Tryz.func55, Tryz.ntmps55
        go_wp2
        go_ret
        exact ⟨0, rfl, .inl ⟨rfl, HW.out.2 ⟨hz, hl⟩⟩, hb.out⟩
      · have hl2 : (16384 : Int) < (s.size : Int) := by omega
        go_enter Tryz.func55, Tryz.ntmps55
        go_wp2
        go_ret
        exact ⟨2, rfl, .inr ⟨rfl, fun h => hl (HW.out.1 h).2⟩, hb.out⟩

theorem eql_whole_at (d : Nat) (w : World) (b b' : Bool) (s s' : ByteArray) : (Op.equalIn (d + 2) 23 (.agg #[.bool b, .string s]) (.agg #[.bool b', .string s'])).run Tryz.prog w = .ok (b == b' && s.toList == s'.toList) w := by
  have u1 := Tryz.underlying4
  have u2 := Tryz.underlying9
  have a1 := Tryz.isAgg4
  have a2 := Tryz.isAgg9
  have z1 := Tryz.sizeOf4
  have z2 := Tryz.sizeOf9
  have hS : Tryz.prog.underlying 23 = some (.struct (Tryz.prog.fieldsOf 23)) := by kernel_rfl
  have hp : Tryz.prog.stoodInHeld 23 = false := by kernel_rfl
  rw [run_equalIn_agg w (d + 1) 23 _ _ hS hp]
  simp only [Program.fieldsOf, Tryz.underlying23]
  go_simp
  by_cases h1 : b = b' <;> by_cases h2 : s.toList = s'.toList <;> simp [h1, h2]
@[go_sem] theorem eql_whole (w : World) (b b' : Bool) (s s' : ByteArray) : (Op.equalIn 10000 23 (.agg #[.bool b, .string s]) (.agg #[.bool b', .string s'])).run Tryz.prog w = .ok (b == b' && s.toList == s'.toList) w := eql_whole_at 9998 w b b' s s'
set_option maxRecDepth 100000 in
@[go_sem] theorem eql_frac (w : World) (b b' c c' : Bool) (s s' t t' : ByteArray) : (Op.equalIn 10000 25 (.agg #[.bool b, .string s, .bool c, .string t]) (.agg #[.bool b', .string s', .bool c', .string t'])).run Tryz.prog w = .ok ((b == b' && s.toList == s'.toList) && (c == c' && t.toList == t'.toList)) w := by
  have u1 := Tryz.underlying4
  have u2 := Tryz.underlying9
  have a1 := Tryz.isAgg4
  have a2 := Tryz.isAgg9
  have a3 := Tryz.isAgg23
  have z1 := Tryz.sizeOf4
  have z2 := Tryz.sizeOf9
  have z3 := Tryz.sizeOf23
  have hS : Tryz.prog.underlying 25 = some (.struct (Tryz.prog.fieldsOf 25)) := by kernel_rfl
  have hp : Tryz.prog.stoodInHeld 25 = false := by kernel_rfl
  rw [show (10000 : Nat) = 9999 + 1 from rfl, run_equalIn_agg w 9999 25 _ _ hS hp]
  simp only [Program.fieldsOf, Tryz.underlying25]
  have hw := fun (b b' : Bool) (s s' : ByteArray) => eql_whole_at 9997 w b b' s s'
  go_simp
  by_cases h1 : b = b' <;> by_cases h2 : s.toList = s'.toList <;> by_cases h3 : c = c' <;> by_cases h4 : t.toList = t'.toList <;> simp [h1, h2, h3, h4]
@[go_sem] theorem build_whole (b : Bool) (s : ByteArray) (w : World) : (Instr.build 23 #[(0, .bool b), (1, .string s)]).run Tryz.prog w = .ok (.agg #[.bool b, .string s]) w := run_build w _ _ _ (by kernel_rfl)
@[go_sem] theorem build_frac (b c : Bool) (s t : ByteArray) (w : World) : (Instr.build 25 #[(0, .agg #[.bool b, .string s]), (1, .agg #[.bool c, .string t])]).run Tryz.prog w = .ok (.agg #[.bool b, .string s, .bool c, .string t]) w := run_build w _ _ _ (by kernel_rfl)
@[go_sem] theorem build_whole0 (w : World) : (Instr.build 23 #[]).run Tryz.prog w = .ok (.agg #[.bool false, .string ⟨#[]⟩]) w := run_build w _ _ _ (by kernel_rfl)
@[go_sem] theorem build_frac0 (w : World) : (Instr.build 25 #[]).run Tryz.prog w = .ok (.agg #[.bool false, .string ⟨#[]⟩, .bool false, .string ⟨#[]⟩]) w := run_build w _ _ _ (by kernel_rfl)

/-- The number of a sign and a magnitude. -/
def numOf (b : Bool) (s : ByteArray) : Int := sg b (num s)
theorem head_lean {b : Bool} {s : ByteArray} (h : WholeOk b s) : Plain1 s := by
  rcases h.1 with h1 | h1
  · exact .inl h1.1
  · exact .inr h1.2
theorem numOf_ok {b : Bool} {s : ByteArray} (h : WholeOk b s) : decide (numOf b s < 0) = b ∧ mag (numOf b s).natAbs = s ∧ (numOf b s).natAbs = num s := by
  have h1 := mag_num (head_lean h)
  have h2 : s.size ≠ 0 → num s ≠ 0 := by
    intro k e
    rw [e, mag_zero] at h1
    rw [← h1] at k
    exact k rfl
  have h3 : (numOf b s).natAbs = num s := by unfold numOf sg; cases b <;> simp
  refine ⟨?_, by rw [h3, h1], h3⟩
  rcases h.1 with h4 | h4
  · have : num s = 0 := by have := num_lt s; rw [h4.1] at this; omega
    rw [h4.2]
    unfold numOf sg
    simp [this]
  · have := h2 h4.1
    unfold numOf sg
    cases b
    · simp
    · simp; omega
theorem wholeV_ok {b : Bool} {s : ByteArray} (h : WholeOk b s) : (Value.agg #[.bool b, .string s]) = wholeV (numOf b s) := by
  obtain ⟨h1, h2, _⟩ := numOf_ok h
  rw [wholeV, h1, h2]
theorem ok_wholeV (n : Int) (h : (mag n.natAbs).size ≤ 16384) : WholeOk (decide (n < 0)) (mag n.natAbs) := by
  refine ⟨?_, h⟩
  rcases mag_lean n.natAbs with k | k
  · refine .inl ⟨k, ?_⟩
    rw [mag_size] at k
    have := (led_nil_iff _).1 (List.eq_nil_of_length_eq_zero k)
    simp; omega
  · by_cases h0 : (mag n.natAbs).size = 0
    · refine .inl ⟨h0, ?_⟩
      rw [mag_size] at h0
      have := (led_nil_iff _).1 (List.eq_nil_of_length_eq_zero h0)
      simp; omega
    · exact .inr ⟨h0, k⟩
theorem numOf_mag (n : Int) : numOf (decide (n < 0)) (mag n.natAbs) = n := by
  unfold numOf
  rw [num_mag, sg_of]

set_option maxRecDepth 100000 in
theorem WSign_any {w : World} (b : Bool) (s : ByteArray) (hs : s.size ≤ maxLen) :
    Calls Tryz.prog 57 #[.agg #[.bool b, .string s]] w fun e w' => ∃ k : Int, e = .returned (.int .i64 k) ∧ (WholeOk b s ∧ k = (numOf b s).sign ∨ ¬ WholeOk b s ∧ k = 0) ∧ Below w.heap.size w w' := by
  have hb : Below w.heap.size w (w.alloc (.cells #[.bool b, .string s] 23)) := (Below.refl _ _).alloc (Nat.le_refl _) _
  have HB := Lib.hid hb
  have HS := Lib.hid hs
  have HX := Lib.hid (BoxAt.new w #[.bool b, .string s] 23)
  clear hb hs
  by_cases ho : WholeOk b s
  · have HO := Lib.hid ho
    by_cases h0 : s.size = 0
    · obtain rfl := empty_data h0
      have hb0 : b = false := ho.1.elim (fun h => h.2) (fun h => absurd rfl h.1)
      subst hb0
      clear ho h0
      go_enter Tryz.func57, Tryz.ntmps57
      go_wp2_with fail
      refine (Check_any false ⟨#[]⟩ HS.out).mono ?_
      rintro e w1 ⟨k, rfl, hk, h1⟩
      obtain rfl : k = 0 := hk.elim (fun h => h.1) (fun h => absurd HO.out h.2)
      have hc0 := (HX.out.on h1).cell 0 _ rfl
      have hc1 := (HX.out.on h1).cell 1 _ rfl
      have HB1 := Lib.hid (HB.out.trans (h1.mono HB.out.size))
      clear hk h1
      go_wp2
      go_ret
      exact ⟨0, rfl, .inl ⟨HO.out, rfl⟩, HB1.out⟩
    · obtain ⟨hE, hE2⟩ := toList_some h0
      have hn := numOf_ok ho
      have hnz : num s ≠ 0 := by
        intro e
        have := mag_num (head_lean ho)
        rw [e, mag_zero] at this
        rw [← this] at h0
        exact h0 rfl
      have HN := Lib.hid hn
      have HNZ := Lib.hid hnz
      clear ho h0 hn hnz
      cases b
      all_goals
        go_enter Tryz.func57, Tryz.ntmps57
        go_wp2_with fail
        refine (Check_any _ s HS.out).mono ?_
        rintro e w1 ⟨k, rfl, hk, h1⟩
        obtain rfl : k = 0 := hk.elim (fun h => h.1) (fun h => absurd HO.out h.2)
        have hc0 := (HX.out.on h1).cell 0 _ rfl
        have hc1 := (HX.out.on h1).cell 1 _ rfl
        have HB1 := Lib.hid (HB.out.trans (h1.mono HB.out.size))
        clear hk h1
        go_wp2
        go_ret
      · refine ⟨1, rfl, .inl ⟨HO.out, ?_⟩, HB1.out⟩
        obtain ⟨h1, h2, h3⟩ := HN.out
        have := HNZ.out
        rw [Int.sign_eq_one_of_pos]
        simp at h1
        omega
      · refine ⟨-1, rfl, .inl ⟨HO.out, ?_⟩, HB1.out⟩
        obtain ⟨h1, h2, h3⟩ := HN.out
        rw [Int.sign_eq_neg_one_of_neg]
        simpa using h1
  · have HO := Lib.hid ho
    clear ho
    go_enter Tryz.func57, Tryz.ntmps57
    go_wp2_with fail
    refine (Check_any _ s HS.out).mono ?_
    rintro e w1 ⟨k, rfl, hk, h1⟩
    obtain rfl : k = 2 := hk.elim (fun h => absurd h.2 HO.out) (fun h => h.1)
    have HB1 := Lib.hid (HB.out.trans (h1.mono HB.out.size))
    clear hk h1
    go_wp2
    go_ret
    exact ⟨0, rfl, .inr ⟨HO.out, rfl⟩, HB1.out⟩
end Go.Proofs.YtaenedjanckaiaaGreat
