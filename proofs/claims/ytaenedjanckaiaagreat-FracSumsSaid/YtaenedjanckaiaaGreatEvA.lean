/- Layer 3: what calls say, as events. -/
import Derived.Test.YtaenedjanckaiaaGreatLawE
import Derived.Test.YtaenedjanckaiaaGreatSxG
namespace Go.Proofs.YtaenedjanckaiaaGreat
set_option linter.unnecessarySimpa false
set_option linter.unusedVariables false
set_option linter.unusedSimpArgs false
open Go Go.RowKit

theorem ieq_self (a : Int) : Value.bool (a == a) = .bool true := by simp
theorem ine_self (a : Int) : Value.bool (a != a) = .bool false := by simp
def ansB (q : Rat) : Bool := if Fit q then decide (q.num < 0) else false
def ansS (q : Rat) : ByteArray := if Fit q then mag q.num.natAbs else ⟨#[]⟩
def ansD (q : Rat) : ByteArray := if Fit q then mag q.den else ⟨#[]⟩
/-- What is answered of a fraction, cell by cell. -/
def ansW (q : Rat) : Value := .agg #[.bool (ansB q), .string (ansS q), .bool false, .string (ansD q)]
theorem ansW_eq (q : Rat) : ansW q = ansV q := by
  unfold ansW ansV ansB ansS ansD
  split <;> rfl
theorem fit_maxLen {x : Rat} (h : Fit x) : (mag x.num.natAbs).size ≤ maxLen ∧ (mag x.den).size ≤ maxLen := ⟨Nat.le_trans h.1 (by decide), Nat.le_trans h.2 (by decide)⟩
theorem fit_size {x : Rat} (h : Fit x) {k : Nat} (hk : 1024 ≤ k) : (mag x.num.natAbs).size ≤ k ∧ (mag x.den).size ≤ k := ⟨Nat.le_trans h.1 hk, Nat.le_trans h.2 hk⟩
def pairW (q : Rat) : Value := .tuple #[ansW q, .int .i64 (ansK q)]
def frac0k (k : Int) : Value := .tuple #[.agg #[.bool false, .string ⟨#[]⟩, .bool false, .string ⟨#[]⟩], .int .i64 k]
def rawV (b c : Bool) (s t : ByteArray) : Value := .agg #[.bool b, .string s, .bool c, .string t]

theorem fitF (x : Rat) (h : Fit x) : IsFrac (rawV (decide (x.num < 0)) false (mag x.num.natAbs) (mag x.den)) := ⟨x, h, rfl⟩
def eKnown : Ev Tryz.prog := .ret 8 Tryz.call8 _ _ (fun _ => known_any)
def boxF (b c : Bool) (s t : ByteArray) : List Lf := [.b (.v (.bool b)), .b (.v (.string s)), .b (.v (.bool c)), .b (.v (.string t))]
theorem of_pure {P : Program} {f : FuncId} {args : Array Value} {w : World} {v : Value} {β : Env} {n : Nat} (h : Calls P f args w fun e w' => e = .returned v ∧ Below w.heap.size w w') (hv : ∀ β, (tag v).den β = v) :
    Calls P f args w fun e w' => ∃ xs : List Nat, (∀ x ∈ xs, w.heap.size ≤ x) ∧ xs.Nodup ∧ e = .returned ((tag v).den (extE β n xs)) ∧ newHold w' [] xs ∧ Below w.heap.size w w' :=
  h.mono fun e w' ⟨he, hb⟩ => ⟨[], (fun _ h => by cases h), List.nodup_nil, by rw [he, hv], trivial, hb⟩
def eLong2 (k most : Nat) (b c b2 c2 : Bool) (s t s2 t2 : ByteArray) (r : Bool) (hm : most ≤ 1000000) (hr : r = true ↔ ¬ ((s.size ≤ most ∧ t.size ≤ most) ∧ (s2.size ≤ most ∧ t2.size ≤ most))) : Ev Tryz.prog :=
  .call 7 Tryz.call7 (fun β => #[.int .i64 (most : Int), .slice (some ⟨β k, 0, none⟩) 2 2]) [(k, .box (boxF b c s t ++ boxF b2 c2 s2 t2) 25)] 0 (tag (.bool r)) []
    (fun β w h => of_pure (long2_w most hm (h _ (List.mem_singleton.2 rfl)) r hr) (fun _ => rfl))
def eLong1 (k most : Nat) (b c : Bool) (s t : ByteArray) (r : Bool) (hm : most ≤ 1000000) (hr : r = true ↔ ¬ (s.size ≤ most ∧ t.size ≤ most)) : Ev Tryz.prog :=
  .call 7 Tryz.call7 (fun β => #[.int .i64 (most : Int), .slice (some ⟨β k, 0, none⟩) 1 1]) [(k, .box (boxF b c s t) 25)] 0 (tag (.bool r)) []
    (fun β w h => of_pure (long1_w most hm (h _ (List.mem_singleton.2 rfl)) r hr) (fun _ => rfl))
def eTold (q : Rat) : Ev Tryz.prog := .ret 16 Tryz.call16 #[ansW q, .int .i64 (ansK q), fracV q, .bool true] (.bool true) (fun w => told_w (by rw [← ansW_eq]; rfl) rfl rfl)
def eToldNot (b c : Bool) (s t : ByteArray) : Ev Tryz.prog := .ret 16 Tryz.call16 _ _ (fun w => told_not b c s t)
-- the reference of layer 3
def eRMay (b c : Bool) (s t : ByteArray) (r : Bool) (hr : r = true ↔ IsFrac (rawV b c s t)) : Ev Tryz.prog := .ret 9 Tryz.call9 _ _ (fun w => r3may_any b c s t r hr)
def eRMayF (x : Rat) (h : Fit x) : Ev Tryz.prog := eRMay _ _ _ _ true (iff_true_of (fitF x h))
def eRPlus {x y : Rat} (hx : Sz 20000 x) (hy : Sz 20000 y) : Ev Tryz.prog := .ret 17 Tryz.call17 #[fracV x, fracV y] _ (fun w => r3plus_any rfl rfl hx hy)
def eRMinus {x y : Rat} (hx : Sz 20000 x) (hy : Sz 20000 y) : Ev Tryz.prog := .ret 18 Tryz.call18 #[fracV x, fracV y] _ (fun w => r3minus_any rfl rfl hx hy)
def eRTimes {x y : Rat} (hx : Sz 20000 x) (hy : Sz 20000 y) : Ev Tryz.prog := .ret 19 Tryz.call19 #[fracV x, fracV y] _ (fun w => r3times_any rfl rfl hx hy)
def eROver {x y : Rat} (hx : Sz 20000 x) (hy : Sz 20000 y) (h0 : y ≠ 0) : Ev Tryz.prog := .ret 22 Tryz.call22 #[fracV x, fracV y] _ (fun w => r3over_any rfl rfl hx hy h0)
def eRCmp {x y : Rat} (hx : Sz 20000 x) (hy : Sz 20000 y) : Ev Tryz.prog := .ret 20 Tryz.call20 #[fracV x, fracV y] _ (fun w => r3cmp_any rfl rfl hx hy)
def eRSign {x : Rat} {k : Int} (hx : Sz 20000 x) (hk : x.num.sign = k) : Ev Tryz.prog := .ret 21 Tryz.call21 #[fracV x] (.int .i64 k) (fun w => by rw [← hk]; exact r3sign_any rfl hx)
def eRNeg {x : Rat} (hx : Sz 20000 x) : Ev Tryz.prog := .ret 40 Tryz.call40 #[fracV x] _ (fun w => r3neg_any rfl hx)
-- package frac, of what may be
theorem ret_ans {f : FuncId} {args : Array Value} {w : World} {q : Rat} (h : Calls Tryz.prog f args w fun e w' => e = .returned (.tuple #[ansV q, .int .i64 (ansK q)]) ∧ Below w.heap.size w w') : Calls Tryz.prog f args w fun e w' => e = .returned (pairW q) ∧ Below w.heap.size w w' := by
  unfold pairW
  rw [ansW_eq]
  exact h
def eMay (b c : Bool) (s t : ByteArray) (hs : s.size ≤ maxLen) (ht : t.size ≤ maxLen) (r : Bool) (hr : r = true ↔ IsFrac (rawV b c s t)) : Ev Tryz.prog := .ret 15 Tryz.call15 _ _ (fun w => may_w b c s t hs ht r hr)
def eMayF (x : Rat) (h : Fit x) : Ev Tryz.prog := eMay _ _ _ _ (fit_maxLen h).1 (fit_maxLen h).2 true (iff_true_of (fitF x h))
def eAdd {x y : Rat} (hx : Fit x) (hy : Fit y) : Ev Tryz.prog := .ret 10 Tryz.call10 #[fracV x, fracV y] _ (fun w => ret_ans (bin_in (FAdd_any _ _ _ _ _ _ _ _ (fit_maxLen hx).1 (fit_maxLen hx).2 (fit_maxLen hy).1 (fit_maxLen hy).2) rfl rfl hx hy))
def eSub {x y : Rat} (hx : Fit x) (hy : Fit y) : Ev Tryz.prog := .ret 11 Tryz.call11 #[fracV x, fracV y] _ (fun w => ret_ans (bin_in (FSub_any _ _ _ _ _ _ _ _ (fit_maxLen hx).1 (fit_maxLen hx).2 (fit_maxLen hy).1 (fit_maxLen hy).2) rfl rfl hx hy))
def eMul {x y : Rat} (hx : Fit x) (hy : Fit y) : Ev Tryz.prog := .ret 12 Tryz.call12 #[fracV x, fracV y] _ (fun w => ret_ans (bin_in (FMul_any _ _ _ _ _ _ _ _ (fit_maxLen hx).1 (fit_maxLen hx).2 (fit_maxLen hy).1 (fit_maxLen hy).2) rfl rfl hx hy))
def eDiv {x y : Rat} (hx : Fit x) (hy : Fit y) (h0 : y ≠ 0) : Ev Tryz.prog := .ret 13 Tryz.call13 #[fracV x, fracV y] _ (fun w => ret_ans (div_in (FDiv_any _ _ _ _ _ _ _ _ (fit_maxLen hx).1 (fit_maxLen hx).2 (fit_maxLen hy).1 (fit_maxLen hy).2) rfl rfl hx hy h0))
def eDiv0 {x : Rat} (hx : Fit x) : Ev Tryz.prog := .ret 13 Tryz.call13 #[fracV x, fracV 0] _ (fun w => div_zero (FDiv_any _ _ _ _ _ _ _ _ (fit_maxLen hx).1 (fit_maxLen hx).2 (fit_maxLen fit_zero).1 (fit_maxLen fit_zero).2) ⟨x, hx, rfl⟩ rfl)
def eCmp {x y : Rat} (hx : Fit x) (hy : Fit y) : Ev Tryz.prog := .ret 14 Tryz.call14 #[fracV x, fracV y] _ (fun w => cmp_in (FCmp_any _ _ _ _ _ _ _ _ (fit_maxLen hx).1 (fit_maxLen hx).2 (fit_maxLen hy).1 (fit_maxLen hy).2) rfl rfl hx hy)
-- and of what may not
section
variable (b c b2 c2 : Bool) (s t s2 t2 : ByteArray) (hs : s.size ≤ maxLen) (ht : t.size ≤ maxLen) (hs2 : s2.size ≤ maxLen) (ht2 : t2.size ≤ maxLen) (h : ¬ (IsFrac (rawV b c s t) ∧ IsFrac (rawV b2 c2 s2 t2)))
def eAddN : Ev Tryz.prog := .ret 10 Tryz.call10 #[rawV b c s t, rawV b2 c2 s2 t2] _ (fun w => bin_out (FAdd_any b c b2 c2 s t s2 t2 hs ht hs2 ht2) h)
def eSubN : Ev Tryz.prog := .ret 11 Tryz.call11 #[rawV b c s t, rawV b2 c2 s2 t2] _ (fun w => bin_out (FSub_any b c b2 c2 s t s2 t2 hs ht hs2 ht2) h)
def eMulN : Ev Tryz.prog := .ret 12 Tryz.call12 #[rawV b c s t, rawV b2 c2 s2 t2] _ (fun w => bin_out (FMul_any b c b2 c2 s t s2 t2 hs ht hs2 ht2) h)
def eDivN : Ev Tryz.prog := .ret 13 Tryz.call13 #[rawV b c s t, rawV b2 c2 s2 t2] _ (fun w => div_out (FDiv_any b c b2 c2 s t s2 t2 hs ht hs2 ht2) h)
def eCmpN : Ev Tryz.prog := .ret 14 Tryz.call14 #[rawV b c s t, rawV b2 c2 s2 t2] _ (fun w => cmp_out (FCmp_any b c b2 c2 s t s2 t2 hs ht hs2 ht2) h)
end
end Go.Proofs.YtaenedjanckaiaaGreat
