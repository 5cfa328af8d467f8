/- Package big: magnitudes: divide. -/
import Derived.Deep.LoopGhost
import Derived.Deep.DeepCutAuto
import Derived.Deep.CutBlock
import Derived.Test.YtaenedjanckaiaaBigE
import Derived.Test.YtaenedjanckaiaaReg
namespace Go.Proofs.Ytaenedjanckaiaa
set_option linter.unnecessarySimpa false
set_option linter.unusedVariables false
set_option linter.unusedSimpArgs false
open Go.RowKit

theorem cmpN_lt {n m : Nat} (h : n < m) : cmpN n m = -1 := if_pos h
theorem cmpN_ge {n m : Nat} (h : m ≤ n) : 0 ≤ cmpN n m := by
  unfold cmpN
  split
  · omega
  · split <;> omega

theorem short_dig {A : Option Addr} {la ca a : Nat} {w : World} (hx : Words w (.slice A la ca) (dig a)) (d : Nat) (hd0 : 0 < d) (hd : d < 4294967296) :
    Calls Try.prog 118 #[.slice A la ca, .int .u32 (d : Int)] w fun e w' => ∃ v r, e = .returned (.tuple #[v, .int .u32 ((r : Nat) : Int)]) ∧ Hid (r = a % d) ∧ r < d ∧ Words w' v (dig (a / d)) ∧ Below w.heap.size w w' := by
  refine (short_any hx (by rw [hx.len.1]; exact hx.2.1) d hd0 hd).mono fun e w' ⟨v, h1, h2, h3⟩ => ?_
  rw [val_dig] at h1 h2
  exact ⟨v, _, h1, rfl, Nat.mod_lt _ hd0, h2, h3⟩

def DivPost (w : World) (a b : Nat) (e : Ending) (w' : World) : Prop :=
  ∃ v1 v2, e = .returned (.tuple #[v1, v2]) ∧ Words w' v1 (dig (a / b)) ∧ Words w' v2 (dig (a % b)) ∧ Below w.heap.size w w'

set_option maxRecDepth 100000 in
theorem divide_small {A B : Option Addr} {la ca lb cb a b : Nat} {w : World} (hx : Words w (.slice A la ca) (dig a)) (hy : Words w (.slice B lb cb) (dig b)) (hlt : a < b) :
    Calls Try.prog 116 #[.slice A la ca, .slice B lb cb] w (DivPost w a b) := by
  have HX := Lib.hid hx
  have HY := Lib.hid hy
  have HL := Lib.hid hlt
  clear hx hy hlt
  go_enter Try.func116, Try.ntmps116
  go_wp2_with (go_at_call 106; refine (under_any HX.out HY.out).mono ?_; rw [cmpN_lt HL.out]; rintro e w' ⟨rfl, k, rfl⟩)
  go_ret2
  refine ⟨.slice none 0 0, .slice A la ca, rfl, ?_, ?_, Below.drewN_ (Below.refl _ _) k⟩
  · rw [Nat.div_eq_of_lt HL.out, dig_zero]; exact Words.nil _
  · rw [Nat.mod_eq_of_lt HL.out]; exact HX.out.below (Below.drewN_ (Below.refl _ _) k)

set_option maxRecDepth 100000 in
theorem divide_word {A B : Option Addr} {la ca cb a b : Nat} {w : World} (hx : Words w (.slice A la ca) (dig a)) (hy : Words w (.slice B 1 cb) (dig b)) (hge : b ≤ a) :
    Calls Try.prog 116 #[.slice A la ca, .slice B 1 cb] w (DivPost w a b) := by
  have hl := hy.len.1
  have hb0 : 0 < b := by
    rcases Nat.eq_zero_or_pos b with h | h
    · rw [h, dig_zero] at hl; simp at hl
    · exact h
  have hbd : (dig b).getD 0 0 = b := by
    have h1 := val_dig b
    match hd : dig b, hl with
    | [x], _ => rw [hd] at h1; simp [val] at h1; simpa using h1
  have hblt : b < 4294967296 := by have := dig_lt b; rw [← hl] at this; omega
  obtain ⟨bb, o, rfl, hc⟩ := hy.open_ (by omega)
  have hc : w.cell? ⟨bb, o, none⟩ = some (.int .u32 (b : Int)) := by have := hc 0 (by omega); rw [hbd] at this; exact this
  have hsz := hx.2.1
  rw [← hx.len.1] at hsz
  have HX := Lib.hid hx
  have HY := Lib.hid hy
  have HC := Lib.hid (cmpN_ge hge)
  obtain ⟨r, hr⟩ : ∃ r, r = cmpN a b := ⟨_, rfl⟩
  have HR := Lib.hid hr
  have hr0 : 0 ≤ r := by rw [hr]; exact HC.out
  have hb1 : 0 < b := hb0
  clear hx hy hge hl hbd hr HC
  go_enter Try.func116, Try.ntmps116
  go_wp2_with (first
    | (go_at_call 106; refine (under_any HX.out HY.out).mono ?_; rw [← HR.out]; rintro e w' ⟨rfl, k, rfl⟩)
    | (go_at_call 118; refine (short_dig (HX.out.below (Below.drewN_ (Below.refl _ _) _)) b hb1 hblt).mono ?_; rintro e w' ⟨v, r2, rfl, hr2, hr2b, hv, hbel⟩))
  have hrl : r2 < 4294967296 := by omega
  have HV := Lib.hid hv
  have HB := Lib.hid hbel
  clear hv hbel
  go_wp2_with (go_at_call 120; refine (cut_any (words_one _ r2 _ hrl rfl)).mono ?_; rintro e w2 ⟨rfl, rfl⟩)
  go_ret2
  refine ⟨v, .slice (some ⟨w'.heap.size, 0, none⟩) (trim [r2]).length 1, rfl, HV.out.below ((Below.refl _ _).alloc (Nat.le_refl _) _), ?_, (((Below.drewN_ (Below.refl _ _) _).trans (HB.out.mono (by simp))).alloc (by have := HB.out.size; simpa using this) _)⟩
  have h1 := (words_one w' r2 _ hrl rfl).trim_
  rw [← hr2.out, ← dig_of [r2] r2 (Wf.cons hrl Wf.nil) (by simp [val])]
  exact h1
end Go.Proofs.Ytaenedjanckaiaa
