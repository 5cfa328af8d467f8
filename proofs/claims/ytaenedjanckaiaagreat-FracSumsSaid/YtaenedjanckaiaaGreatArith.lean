/- Package frac: both, Add, Sub, Mul. -/
import Derived.Test.YtaenedjanckaiaaGreatSz
import Derived.Test.YtaenedjanckaiaaGreatRegQ
namespace Go.Proofs.YtaenedjanckaiaaGreat
set_option linter.unnecessarySimpa false
set_option linter.unusedVariables false
set_option linter.unusedSimpArgs false
open Go.RowKit

structure FracParts (b : Bool) (s : ByteArray) (c : Bool) (t : ByteArray) (x : Rat) : Prop where
  hs : s.size ≤ 4294967296
  ht : t.size ≤ 4294967296
  h0 : numOf c t ≠ 0
  k1 : Okn (numOf b s)
  k2 : Okn (numOf c t)
  eq : x = Rat.divInt (numOf b s) (numOf c t)
  fit : Fit x
  val : (Value.agg #[.bool b, .string s, .bool c, .string t]) = fracV x
theorem parts_of {b c : Bool} {s t : ByteArray} (h : IsFrac (.agg #[.bool b, .string s, .bool c, .string t])) : ∃ x, FracParts b s c t x := by
  obtain ⟨h1, h2, h3, h4, h5, h6⟩ := isFrac_parts h
  have z1 : (mag (numOf b s).natAbs).size ≤ 16384 := by rw [(numOf_ok h1).2.1]; exact Nat.le_trans h3 (by decide)
  have z2 : (mag (numOf c t).natAbs).size ≤ 16384 := by rw [(numOf_ok h2).2.1]; exact Nat.le_trans h4 (by decide)
  have hf : Fit (Rat.divInt (numOf b s) (numOf c t)) := by
    obtain ⟨_, e2, _, e4⟩ := agg4 h6
    exact ⟨by rw [← e2]; exact h3, by rw [← e4]; exact h4⟩
  exact ⟨_, Nat.le_trans h3 (by decide), Nat.le_trans h4 (by decide), by omega, okn_size z1, okn_size z2, rfl, hf, h6⟩
theorem FracParts.isFrac {b c : Bool} {s t : ByteArray} {x : Rat} (h : FracParts b s c t x) : IsFrac (.agg #[.bool b, .string s, .bool c, .string t]) := ⟨x, h.fit, h.val⟩
theorem rat_frac {w : World} {b c : Bool} {s t : ByteArray} {x : Rat} (h : FracParts b s c t x) :
    Calls Tryz.prog 53 #[.agg #[.bool b, .string s, .bool c, .string t]] w fun e w' => ∃ g, e = .returned (.pointer (some ⟨g, 0, none⟩)) ∧ w.heap.size ≤ g ∧ RatAt w' g 0 x ∧ Below w.heap.size w w' := by
  rw [h.eq]
  exact rat_any b c s t h.hs h.ht h.h0 h.k1 h.k2
/-- What is answered of two. -/
def BinAns (fn : Rat → Rat → Rat) (va vb v : Value) (k : Int) : Prop :=
  (∃ x y, Fit x ∧ Fit y ∧ va = fracV x ∧ vb = fracV y ∧ Ans (fn x y) v k) ∨ ((¬ IsFrac va ∨ ¬ IsFrac vb) ∧ v = frac0 ∧ k = 2)
theorem size_alloc2 (w : World) (a b : Obj) : ((w.alloc a).alloc b).heap.size = w.heap.size + 2 := by simp
theorem size_alloc3 (w : World) (a b c : Obj) : (((w.alloc a).alloc b).alloc c).heap.size = w.heap.size + 3 := by simp
theorem BoxAt.new_at {w : World} {n : Nat} (cs : Array Value) (t : TypeId) (hn : n = w.heap.size) : BoxAt (w.alloc (.cells cs t)) n cs t := hn ▸ BoxAt.new w cs t
/-- Two fractions, and a place for an answer. -/
structure Two (w0 w : World) (v1 v2 : Array Value) : Prop where
  below : Below w0.heap.size w0 w
  one : BoxAt w w0.heap.size v1 25
  two : BoxAt w (w0.heap.size + 1) v2 25
  place : BoxAt w (w0.heap.size + 1 + 1) #[.bool false, .string ⟨#[]⟩, .bool false, .string ⟨#[]⟩] 25
theorem Two.new (w0 : World) (v1 v2 : Array Value) : Two w0 (((w0.alloc (.cells v1 25)).alloc (.cells v2 25)).alloc (.cells #[.bool false, .string ⟨#[]⟩, .bool false, .string ⟨#[]⟩] 25)) v1 v2 := by
  have b1 := below_new w0 (.cells v1 25)
  have b2 := below_new (w0.alloc (.cells v1 25)) (.cells v2 25)
  have b3 := below_new ((w0.alloc (.cells v1 25)).alloc (.cells v2 25)) (.cells #[.bool false, .string ⟨#[]⟩, .bool false, .string ⟨#[]⟩] 25)
  refine ⟨(b1.trans (b2.mono (by simp))).trans (b3.mono (by simp; omega)), ((BoxAt.new w0 _ _).on b2).on b3, (BoxAt.new_at _ _ (by simp)).on b3, BoxAt.new_at _ _ (by simp)⟩
theorem Two.on {w0 w w' : World} {v1 v2 : Array Value} (h : Two w0 w v1 v2) (k : Below w.heap.size w w') : Two w0 w' v1 v2 :=
  ⟨h.below.trans (k.mono h.below.size), h.one.on k, h.two.on k, h.place.on k⟩
theorem Two.size {w0 w : World} {v1 v2 : Array Value} (h : Two w0 w v1 v2) : w0.heap.size + 3 ≤ w.heap.size := h.place.lt
/-- Four cells stored. -/
theorem BoxAt.put4 {w : World} {g : Nat} {a0 a1 a2 a3 : Value} {T : TypeId} (h : BoxAt w g #[a0, a1, a2, a3] T) (v0 v1 v2 v3 : Value) :
    BoxAt ((((w.setCell ⟨g, 0, none⟩ v0).setCell ⟨g, 1, none⟩ v1).setCell ⟨g, 2, none⟩ v2).setCell ⟨g, 3, none⟩ v3) g #[v0, v1, v2, v3] T := (((h.set 0 v0).set 1 v1).set 2 v2).set 3 v3
theorem below_put4 {w0 w : World} {g B : Nat} (h : Below B w0 w) (hg : B ≤ g) (v0 v1 v2 v3 : Value) : Below B w0 ((((w.setCell ⟨g, 0, none⟩ v0).setCell ⟨g, 1, none⟩ v1).setCell ⟨g, 2, none⟩ v2).setCell ⟨g, 3, none⟩ v3) :=
  (((h.setCell hg _).setCell hg _).setCell hg _).setCell hg _
theorem Ans.agg {q : Rat} {v : Value} {k : Int} (h : Ans q v k) : ∃ b s c t, v = .agg #[.bool b, .string s, .bool c, .string t] := by
  rcases h with ⟨_, rfl, _⟩ | ⟨_, rfl, _⟩
  · exact ⟨_, _, _, _, rfl⟩
  · exact ⟨_, _, _, _, rfl⟩
theorem BinAns.agg {fn : Rat → Rat → Rat} {va vb v : Value} {k : Int} (h : BinAns fn va vb v k) : ∃ b s c t, v = .agg #[.bool b, .string s, .bool c, .string t] := by
  rcases h with ⟨_, _, _, _, _, _, h⟩ | ⟨_, rfl, _⟩
  · exact h.agg
  · exact ⟨_, _, _, _, rfl⟩
instance (q : Rat) : Decidable (Fit q) := inferInstanceAs (Decidable (_ ∧ _))
def ansV (q : Rat) : Value := if Fit q then fracV q else frac0
def ansK (q : Rat) : Int := if Fit q then 0 else 4
theorem ansV_ans (q : Rat) : Ans q (ansV q) (ansK q) := by
  unfold ansV ansK
  by_cases h : Fit q
  · rw [if_pos h, if_pos h]; exact .inl ⟨h, rfl, rfl⟩
  · rw [if_neg h, if_neg h]; exact .inr ⟨h, rfl, rfl⟩
theorem ans_eq {q : Rat} {v : Value} {k : Int} (h : Ans q v k) : v = ansV q ∧ k = ansK q := by
  unfold ansV ansK
  rcases h with ⟨h1, h2, h3⟩ | ⟨h1, h2, h3⟩
  · rw [if_pos h1, if_pos h1]; exact ⟨h2, h3⟩
  · rw [if_neg h1, if_neg h1]; exact ⟨h2, h3⟩
def BinPost (fn : Rat → Rat → Rat) (va vb : Value) (w : World) (e : Ending) (w' : World) : Prop :=
  ∃ v k, e = .returned (.tuple #[v, .int .i64 k]) ∧ BinAns fn va vb v k ∧ Below w.heap.size w w'
theorem Two.touch {w0 w w' : World} {v1 v2 : Array Value} {g n : Nat} (h : Two w0 w v1 v2) (hg : w0.heap.size + 3 ≤ g) (k : Touch w w' g 0 n) : Two w0 w' v1 v2 := by
  have key : ∀ i cs, i < w0.heap.size + 3 → BoxAt w i cs 25 → BoxAt w' i cs 25 := by
    intro i cs hi hb
    unfold BoxAt
    rw [k.block i hb.lt (by omega)]
    exact hb
  exact ⟨h.below.trans (k.below (by omega) (by have := h.size; omega)), key _ _ (by omega) h.one, key _ _ (by omega) h.two, key _ _ (by omega) h.place⟩

set_option maxHeartbeats 3200000 in
set_option maxRecDepth 100000 in
theorem both_add {w0 : World} (b c b2 c2 : Bool) (s t s2 t2 : ByteArray) (hs : s.size ≤ maxLen) (ht : t.size ≤ maxLen) (hs2 : s2.size ≤ maxLen) (ht2 : t2.size ≤ maxLen) :
    Calls Tryz.prog 48 #[.agg #[.bool b, .string s, .bool c, .string t], .agg #[.bool b2, .string s2, .bool c2, .string t2], .func (.func 49) #[] #[]] w0 (BinPost (fun x y => x + y) (.agg #[.bool b, .string s, .bool c, .string t]) (.agg #[.bool b2, .string s2, .bool c2, .string t2]) w0) := by
  have HS := Lib.hid hs
  have HT := Lib.hid ht
  have HS2 := Lib.hid hs2
  have HT2 := Lib.hid ht2
  have HW0 := Lib.hid (Two.new w0 #[.bool b, .string s, .bool c, .string t] #[.bool b2, .string s2, .bool c2, .string t2])
  clear hs ht hs2 ht2
  go_enter Tryz.func48, Tryz.ntmps48
  go_wp2_with fail
  refine (May_any b c s t HS.out HT.out).mono ?_
  rintro e w1 ⟨r, rfl, hr, hb⟩
  have HW1 := Lib.hid (HW0.out.on hb)
  have HR := Lib.hid hr
  clear hb hr
  cases r
  · have hp0 := HW1.out.place.cell 0 _ rfl
    have hp1 := HW1.out.place.cell 1 _ rfl
    have hp2 := HW1.out.place.cell 2 _ rfl
    have hp3 := HW1.out.place.cell 3 _ rfl
    have hf := HW1.out.place.frozen
    go_wp2
    have hk := HW1.out.place.put4 (.bool false) (.string ⟨#[]⟩) (.bool false) (.string ⟨#[]⟩)
    have k0 := hk.cell 0 _ rfl
    have k1 := hk.cell 1 _ rfl
    have k2 := hk.cell 2 _ rfl
    have k3 := hk.cell 3 _ rfl
    exact bodyPost_ret (v := .tuple #[frac0, .int .i64 2]) (by simp [results, Tryz.results48, go_sem, k0, k1, k2, k3, frac0]) rfl ⟨_, _, rfl, .inr ⟨.inl fun h => Bool.noConfusion (HR.out.2 h), rfl, rfl⟩, below_put4 HW1.out.below (by omega) _ _ _ _⟩
  have hc0 := HW1.out.two.cell 0 (.bool b2) rfl
  have hc1 := HW1.out.two.cell 1 (.string s2) rfl
  have hc2 := HW1.out.two.cell 2 (.bool c2) rfl
  have hc3 := HW1.out.two.cell 3 (.string t2) rfl
  go_wp2_with fail
  refine (May_any b2 c2 s2 t2 HS2.out HT2.out).mono ?_
  rintro e w2 ⟨r, rfl, hr, hb⟩
  have HW2 := Lib.hid (HW1.out.on hb)
  have HR2 := Lib.hid hr
  clear hb hr hc0 hc1 hc2 hc3
  cases r
  · have hp0 := HW2.out.place.cell 0 _ rfl
    have hp1 := HW2.out.place.cell 1 _ rfl
    have hp2 := HW2.out.place.cell 2 _ rfl
    have hp3 := HW2.out.place.cell 3 _ rfl
    have hf := HW2.out.place.frozen
    go_wp2
    have hk := HW2.out.place.put4 (.bool false) (.string ⟨#[]⟩) (.bool false) (.string ⟨#[]⟩)
    have k0 := hk.cell 0 _ rfl
    have k1 := hk.cell 1 _ rfl
    have k2 := hk.cell 2 _ rfl
    have k3 := hk.cell 3 _ rfl
    exact bodyPost_ret (v := .tuple #[frac0, .int .i64 2]) (by simp [results, Tryz.results48, go_sem, k0, k1, k2, k3, frac0]) rfl ⟨_, _, rfl, .inr ⟨.inr fun h => Bool.noConfusion (HR2.out.2 h), rfl, rfl⟩, below_put4 HW2.out.below (by omega) _ _ _ _⟩
  obtain ⟨x, hx⟩ := parts_of (by first | exact HR.out.1 rfl | exact HR.out.1 trivial)
  obtain ⟨y, hy⟩ := parts_of (by first | exact HR2.out.1 rfl | exact HR2.out.1 trivial)
  have HX := Lib.hid hx
  have HY := Lib.hid hy
  clear hx hy HR HR2 HW1 HW0
  go_wp2
  have hok := (HX.out.fit.sz.add HY.out.fit.sz).okR (by decide)
  have HOK := Lib.hid hok
  clear hok
  refine wp_region_ghost 10 (GC w2.heap.size w2 [1, 3, 5]) (fun γ wq _ wr => GE w2.heap.size [(1, 6)] γ wq wr) (fun i γ wq v => match i with
      | 0 => v = .func (.func 49) #[] #[]
      | 1 => VP w2.heap.size wq v
      | 2 => v = .agg #[.bool b, .string s, .bool c, .string t]
      | 3 => VQ (x) wq v
      | 4 => v = .agg #[.bool b2, .string s2, .bool c2, .string t2]
      | 5 => VQ (y) wq v
      | 6 => VR w2.heap.size 1 ((fun x y => x + y) x y) γ wq v
      | 7 => v = .tuple #[ansV ((fun x y => x + y) x y), .int .i64 (ansK ((fun x y => x + y) x y))]
      | 8 => v = ansV ((fun x y => x + y) x y)
      | 9 => v = .int .i64 (ansK ((fun x y => x + y) x y))
      | _ => True) (by kernel_rfl) (by kernel_rfl) (by kernel_rfl) (GC.start _ (Nat.le_refl _)) ?_ ⟨?_, ?_, ?_, ?_, ?_, ?_, ?_, ?_, ?_, ?_, trivial⟩ ?_
  · intro i γ w1 k xq w2 v hC hC2 hE hk hi hV
    match i with
    | 0 => exact hV
    | 1 => exact VP.stable hV hE
    | 2 => exact hV
    | 3 => exact VQ.stable 3 hV hC hE hi rfl
    | 4 => exact hV
    | 5 => exact VQ.stable 5 hV hC hE hi rfl
    | 6 => exact VR.stable 6 k hV hC hE hk hi rfl
    | 7 => exact hV
    | 8 => exact hV
    | 9 => exact hV
    | _ + 10 => trivial
  · intro a' γ w' hag hC hk hd K hK
    have e2 : a'.tmps.getD 2 undef = .func (.func 49) #[] #[] := hag 2 rfl
    go_step
    exact hK _ _ (hC.step 0 _ rfl (Below.refl _ _)) (GE.refl _ _ _ _) rfl
  · intro a' γ w' hag hC hk hd K hK
    have hb := below_new w' (.cells #[.bool false, .slice none 0 0, .bool false, .slice none 0 0] 85)
    have HK := Lib.hid (hK (.pointer (some ⟨w'.heap.size, 0, none⟩)) _ (hC.own 1 _ _ hb (RatAt.new w').slot.lt (.inr (Nat.le_refl _))) (GE.below _ _ hb) ⟨_, rfl, hC.size, (RatAt.new w').slot⟩)
    clear hb hK hC
    go_step
    exact HK.out
  · intro a' γ w' hag hC hk hd K hK
    have e3 : a'.tmps.getD 3 undef = .pointer (some ⟨w0.heap.size, 0, none⟩) := hag 3 rfl
    have hT := HW2.out.on hC.below
    have hc0 := hT.one.cell 0 (.bool b) rfl
    have hc1 := hT.one.cell 1 (.string s) rfl
    have hc2 := hT.one.cell 2 (.bool c) rfl
    have hc3 := hT.one.cell 3 (.string t) rfl
    have HK := Lib.hid (hK (.agg #[.bool b, .string s, .bool c, .string t]) _ (hC.step 2 _ rfl (Below.refl _ _)) (GE.refl _ _ _ _) rfl)
    clear hK hC hT
    go_step
    exact HK.out
  · intro a' γ w' hag hC hk hd K hK
    have e19 : a'.tmps.getD 19 undef = .agg #[.bool b, .string s, .bool c, .string t] := hd.1.2
    have hx := Lib.hid (rat_frac (w := w') HX.out)
    go_step
    refine hx.out.mono ?_
    rintro e w2 ⟨g, rfl, h3, h1, h2⟩
    exact hK _ _ (hC.own 3 _ _ h2 h1.slot.lt (.inr h3)) (GE.below _ _ h2) ⟨_, rfl, h1⟩
  · intro a' γ w' hag hC hk hd K hK
    have e4 : a'.tmps.getD 4 undef = .pointer (some ⟨w0.heap.size + 1, 0, none⟩) := hag 4 rfl
    have hT := HW2.out.on hC.below
    have hc0 := hT.two.cell 0 (.bool b2) rfl
    have hc1 := hT.two.cell 1 (.string s2) rfl
    have hc2 := hT.two.cell 2 (.bool c2) rfl
    have hc3 := hT.two.cell 3 (.string t2) rfl
    have HK := Lib.hid (hK (.agg #[.bool b2, .string s2, .bool c2, .string t2]) _ (hC.step 4 _ rfl (Below.refl _ _)) (GE.refl _ _ _ _) rfl)
    clear hK hC hT
    go_step
    exact HK.out
  · intro a' γ w' hag hC hk hd K hK
    have e21 : a'.tmps.getD 21 undef = .agg #[.bool b2, .string s2, .bool c2, .string t2] := hd.1.2
    have hx := Lib.hid (rat_frac (w := w') HY.out)
    go_step
    refine hx.out.mono ?_
    rintro e w2 ⟨g, rfl, h3, h1, h2⟩
    exact hK _ _ (hC.own 5 _ _ h2 h1.slot.lt (.inr h3)) (GE.below _ _ h2) ⟨_, rfl, h1⟩
  · intro a' γ w' hag hC hk hd K hK
    have e17 : a'.tmps.getD 17 undef = .func (.func 49) #[] #[] := hd.1.2
    have q18 : VP w2.heap.size w' (a'.tmps.getD 18 undef) := hd.2.1.2
    have gg18 : γ 1 = some (a'.tmps.getD 18 undef) := hd.2.1.1
    obtain ⟨g18, e18, hb18, hs18⟩ := q18
    rw [e18] at gg18
    have e18 : a'.tmps.getD 18 undef = .pointer (some ⟨g18, 0, none⟩) := e18
    have q20 : VQ (x) w' (a'.tmps.getD 20 undef) := hd.2.2.1.2
    have gg20 : γ 3 = some (a'.tmps.getD 20 undef) := hd.2.2.1.1
    obtain ⟨g20, e20, h20⟩ := q20
    rw [e20] at gg20
    have e20 : a'.tmps.getD 20 undef = .pointer (some ⟨g20, 0, none⟩) := e20
    have q22 : VQ (y) w' (a'.tmps.getD 22 undef) := hd.2.2.2.1.2
    have gg22 : γ 5 = some (a'.tmps.getD 22 undef) := hd.2.2.2.1.1
    obtain ⟨g22, e22, h22⟩ := q22
    rw [e22] at gg22
    have e22 : a'.tmps.getD 22 undef = .pointer (some ⟨g22, 0, none⟩) := e22
    have hx := Lib.hid (rAdd_any hs18 h20 h22 HX.out.fit.okR HY.out.fit.okR)
    go_step
    refine hx.out.mono ?_
    rintro e w2 ⟨rfl, h1, h2⟩
    exact hK _ _ (hC.step 6 _ rfl (h2.below hb18 hC.size)) (GE.write 1 6 rfl hs18 h2 gg18 hk hb18) ⟨_, rfl, upd_some gg18 hk, hb18, h1⟩
  · intro a' γ w' hag hC hk hd K hK
    have q23 : VR w2.heap.size 1 ((fun x y => x + y) x y) γ w' (a'.tmps.getD 23 undef) := hd.1.2
    have gg23 : γ 6 = some (a'.tmps.getD 23 undef) := hd.1.1
    obtain ⟨g23, e23, ga23, hb23, h23⟩ := q23
    rw [e23] at gg23
    have e23 : a'.tmps.getD 23 undef = .pointer (some ⟨g23, 0, none⟩) := e23
    have hx := Lib.hid (answer_any h23 HOK.out)
    go_step
    refine hx.out.mono ?_
    rintro e w2 ⟨v, k, rfl, h1, h2⟩
    rw [(ans_eq h1).1, (ans_eq h1).2]
    exact hK _ _ (hC.step 7 _ rfl (h2.mono hC.size)) (GE.below _ _ h2) rfl
  · intro a' γ w' hag hC hk hd K hK
    have e24 : a'.tmps.getD 24 undef = .tuple #[ansV ((fun x y => x + y) x y), .int .i64 (ansK ((fun x y => x + y) x y))] := hd.1.2
    go_step
    exact hK _ _ (hC.step 8 _ rfl (Below.refl _ _)) (GE.refl _ _ _ _) rfl
  · intro a' γ w' hag hC hk hd K hK
    have e24 : a'.tmps.getD 24 undef = .tuple #[ansV ((fun x y => x + y) x y), .int .i64 (ansK ((fun x y => x + y) x y))] := hd.1.2
    go_step
    exact hK _ _ (hC.step 9 _ rfl (Below.refl _ _)) (GE.refl _ _ _ _) rfl
  · intro γ u w' hC hgh hall
    obtain ⟨u0, u1, u2, u3, u4, u5, u6, u7, u8, u9, _⟩ := hall
    have u0 : u 0 = .func (.func 49) #[] #[] := u0
    obtain ⟨g18, eu1, hb18, hs18⟩ := u1
    have u1 : u 1 = .pointer (some ⟨g18, 0, none⟩) := eu1
    have u2 : u 2 = .agg #[.bool b, .string s, .bool c, .string t] := u2
    have u4 : u 4 = .agg #[.bool b2, .string s2, .bool c2, .string t2] := u4
    have u7 : u 7 = .tuple #[ansV ((fun x y => x + y) x y), .int .i64 (ansK ((fun x y => x + y) x y))] := u7
    have u8 : u 8 = ansV ((fun x y => x + y) x y) := u8
    have u9 : u 9 = .int .i64 (ansK ((fun x y => x + y) x y)) := u9
    simp only [fillR, List.take_succ_cons, List.take_zero, Act.put, List.setIfInBounds_toArray, List.set_cons_succ, List.set_cons_zero, Nat.zero_add, Nat.reduceAdd, u0, u1, u2, u4, u7, u8, u9]
    clear u0 u1 u2 u4 u7 u8 u9
    have HC := Lib.hid (HW2.out.on hC.below)
    clear hC
    obtain ⟨pb, ps, pc, pt, hv⟩ := (ansV_ans ((fun x y => x + y) x y)).agg
    have HA := Lib.hid (ansV_ans ((fun x y => x + y) x y))
    rw [hv] at HA ⊢
    generalize ansK ((fun x y => x + y) x y) = k at HA ⊢
    clear hv
    have hp0 := HC.out.place.cell 0 _ rfl
    have hp1 := HC.out.place.cell 1 _ rfl
    have hp2 := HC.out.place.cell 2 _ rfl
    have hp3 := HC.out.place.cell 3 _ rfl
    have hf := HC.out.place.frozen
    go_wp2
    have hk := HC.out.place.put4 (.bool pb) (.string ps) (.bool pc) (.string pt)
    have k0 := hk.cell 0 _ rfl
    have k1 := hk.cell 1 _ rfl
    have k2 := hk.cell 2 _ rfl
    have k3 := hk.cell 3 _ rfl
    exact bodyPost_ret (v := .tuple #[.agg #[.bool pb, .string ps, .bool pc, .string pt], .int .i64 k]) (by simp [results, Tryz.results48, go_sem, k0, k1, k2, k3]) rfl ⟨_, _, rfl, .inl ⟨x, y, HX.out.fit, HY.out.fit, HX.out.val, HY.out.val, HA.out⟩, below_put4 HC.out.below (by omega) _ _ _ _⟩

set_option maxHeartbeats 3200000 in
set_option maxRecDepth 100000 in
theorem both_sub {w0 : World} (b c b2 c2 : Bool) (s t s2 t2 : ByteArray) (hs : s.size ≤ maxLen) (ht : t.size ≤ maxLen) (hs2 : s2.size ≤ maxLen) (ht2 : t2.size ≤ maxLen) :
    Calls Tryz.prog 48 #[.agg #[.bool b, .string s, .bool c, .string t], .agg #[.bool b2, .string s2, .bool c2, .string t2], .func (.func 50) #[] #[]] w0 (BinPost (fun x y => x - y) (.agg #[.bool b, .string s, .bool c, .string t]) (.agg #[.bool b2, .string s2, .bool c2, .string t2]) w0) := by
  have HS := Lib.hid hs
  have HT := Lib.hid ht
  have HS2 := Lib.hid hs2
  have HT2 := Lib.hid ht2
  have HW0 := Lib.hid (Two.new w0 #[.bool b, .string s, .bool c, .string t] #[.bool b2, .string s2, .bool c2, .string t2])
  clear hs ht hs2 ht2
  go_enter Tryz.func48, Tryz.ntmps48
  go_wp2_with fail
  refine (May_any b c s t HS.out HT.out).mono ?_
  rintro e w1 ⟨r, rfl, hr, hb⟩
  have HW1 := Lib.hid (HW0.out.on hb)
  have HR := Lib.hid hr
  clear hb hr
  cases r
  · have hp0 := HW1.out.place.cell 0 _ rfl
    have hp1 := HW1.out.place.cell 1 _ rfl
    have hp2 := HW1.out.place.cell 2 _ rfl
    have hp3 := HW1.out.place.cell 3 _ rfl
    have hf := HW1.out.place.frozen
    go_wp2
    have hk := HW1.out.place.put4 (.bool false) (.string ⟨#[]⟩) (.bool false) (.string ⟨#[]⟩)
    have k0 := hk.cell 0 _ rfl
    have k1 := hk.cell 1 _ rfl
    have k2 := hk.cell 2 _ rfl
    have k3 := hk.cell 3 _ rfl
    exact bodyPost_ret (v := .tuple #[frac0, .int .i64 2]) (by simp [results, Tryz.results48, go_sem, k0, k1, k2, k3, frac0]) rfl ⟨_, _, rfl, .inr ⟨.inl fun h => Bool.noConfusion (HR.out.2 h), rfl, rfl⟩, below_put4 HW1.out.below (by omega) _ _ _ _⟩
  have hc0 := HW1.out.two.cell 0 (.bool b2) rfl
  have hc1 := HW1.out.two.cell 1 (.string s2) rfl
  have hc2 := HW1.out.two.cell 2 (.bool c2) rfl
  have hc3 := HW1.out.two.cell 3 (.string t2) rfl
  go_wp2_with fail
  refine (May_any b2 c2 s2 t2 HS2.out HT2.out).mono ?_
  rintro e w2 ⟨r, rfl, hr, hb⟩
  have HW2 := Lib.hid (HW1.out.on hb)
  have HR2 := Lib.hid hr
  clear hb hr hc0 hc1 hc2 hc3
  cases r
  · have hp0 := HW2.out.place.cell 0 _ rfl
    have hp1 := HW2.out.place.cell 1 _ rfl
    have hp2 := HW2.out.place.cell 2 _ rfl
    have hp3 := HW2.out.place.cell 3 _ rfl
    have hf := HW2.out.place.frozen
    go_wp2
    have hk := HW2.out.place.put4 (.bool false) (.string ⟨#[]⟩) (.bool false) (.string ⟨#[]⟩)
    have k0 := hk.cell 0 _ rfl
    have k1 := hk.cell 1 _ rfl
    have k2 := hk.cell 2 _ rfl
    have k3 := hk.cell 3 _ rfl
    exact bodyPost_ret (v := .tuple #[frac0, .int .i64 2]) (by simp [results, Tryz.results48, go_sem, k0, k1, k2, k3, frac0]) rfl ⟨_, _, rfl, .inr ⟨.inr fun h => Bool.noConfusion (HR2.out.2 h), rfl, rfl⟩, below_put4 HW2.out.below (by omega) _ _ _ _⟩
  obtain ⟨x, hx⟩ := parts_of (by first | exact HR.out.1 rfl | exact HR.out.1 trivial)
  obtain ⟨y, hy⟩ := parts_of (by first | exact HR2.out.1 rfl | exact HR2.out.1 trivial)
  have HX := Lib.hid hx
  have HY := Lib.hid hy
  clear hx hy HR HR2 HW1 HW0
  go_wp2
  have hok := (HX.out.fit.sz.sub HY.out.fit.sz).okR (by decide)
  have HOK := Lib.hid hok
  clear hok
  refine wp_region_ghost 10 (GC w2.heap.size w2 [1, 3, 5]) (fun γ wq _ wr => GE w2.heap.size [(1, 6)] γ wq wr) (fun i γ wq v => match i with
      | 0 => v = .func (.func 50) #[] #[]
      | 1 => VP w2.heap.size wq v
      | 2 => v = .agg #[.bool b, .string s, .bool c, .string t]
      | 3 => VQ (x) wq v
      | 4 => v = .agg #[.bool b2, .string s2, .bool c2, .string t2]
      | 5 => VQ (y) wq v
      | 6 => VR w2.heap.size 1 ((fun x y => x - y) x y) γ wq v
      | 7 => v = .tuple #[ansV ((fun x y => x - y) x y), .int .i64 (ansK ((fun x y => x - y) x y))]
      | 8 => v = ansV ((fun x y => x - y) x y)
      | 9 => v = .int .i64 (ansK ((fun x y => x - y) x y))
      | _ => True) (by kernel_rfl) (by kernel_rfl) (by kernel_rfl) (GC.start _ (Nat.le_refl _)) ?_ ⟨?_, ?_, ?_, ?_, ?_, ?_, ?_, ?_, ?_, ?_, trivial⟩ ?_
  · intro i γ w1 k xq w2 v hC hC2 hE hk hi hV
    match i with
    | 0 => exact hV
    | 1 => exact VP.stable hV hE
    | 2 => exact hV
    | 3 => exact VQ.stable 3 hV hC hE hi rfl
    | 4 => exact hV
    | 5 => exact VQ.stable 5 hV hC hE hi rfl
    | 6 => exact VR.stable 6 k hV hC hE hk hi rfl
    | 7 => exact hV
    | 8 => exact hV
    | 9 => exact hV
    | _ + 10 => trivial
  · intro a' γ w' hag hC hk hd K hK
    have e2 : a'.tmps.getD 2 undef = .func (.func 50) #[] #[] := hag 2 rfl
    go_step
    exact hK _ _ (hC.step 0 _ rfl (Below.refl _ _)) (GE.refl _ _ _ _) rfl
  · intro a' γ w' hag hC hk hd K hK
    have hb := below_new w' (.cells #[.bool false, .slice none 0 0, .bool false, .slice none 0 0] 85)
    have HK := Lib.hid (hK (.pointer (some ⟨w'.heap.size, 0, none⟩)) _ (hC.own 1 _ _ hb (RatAt.new w').slot.lt (.inr (Nat.le_refl _))) (GE.below _ _ hb) ⟨_, rfl, hC.size, (RatAt.new w').slot⟩)
    clear hb hK hC
    go_step
    exact HK.out
  · intro a' γ w' hag hC hk hd K hK
    have e3 : a'.tmps.getD 3 undef = .pointer (some ⟨w0.heap.size, 0, none⟩) := hag 3 rfl
    have hT := HW2.out.on hC.below
    have hc0 := hT.one.cell 0 (.bool b) rfl
    have hc1 := hT.one.cell 1 (.string s) rfl
    have hc2 := hT.one.cell 2 (.bool c) rfl
    have hc3 := hT.one.cell 3 (.string t) rfl
    have HK := Lib.hid (hK (.agg #[.bool b, .string s, .bool c, .string t]) _ (hC.step 2 _ rfl (Below.refl _ _)) (GE.refl _ _ _ _) rfl)
    clear hK hC hT
    go_step
    exact HK.out
  · intro a' γ w' hag hC hk hd K hK
    have e19 : a'.tmps.getD 19 undef = .agg #[.bool b, .string s, .bool c, .string t] := hd.1.2
    have hx := Lib.hid (rat_frac (w := w') HX.out)
    go_step
    refine hx.out.mono ?_
    rintro e w2 ⟨g, rfl, h3, h1, h2⟩
    exact hK _ _ (hC.own 3 _ _ h2 h1.slot.lt (.inr h3)) (GE.below _ _ h2) ⟨_, rfl, h1⟩
  · intro a' γ w' hag hC hk hd K hK
    have e4 : a'.tmps.getD 4 undef = .pointer (some ⟨w0.heap.size + 1, 0, none⟩) := hag 4 rfl
    have hT := HW2.out.on hC.below
    have hc0 := hT.two.cell 0 (.bool b2) rfl
    have hc1 := hT.two.cell 1 (.string s2) rfl
    have hc2 := hT.two.cell 2 (.bool c2) rfl
    have hc3 := hT.two.cell 3 (.string t2) rfl
    have HK := Lib.hid (hK (.agg #[.bool b2, .string s2, .bool c2, .string t2]) _ (hC.step 4 _ rfl (Below.refl _ _)) (GE.refl _ _ _ _) rfl)
    clear hK hC hT
    go_step
    exact HK.out
  · intro a' γ w' hag hC hk hd K hK
    have e21 : a'.tmps.getD 21 undef = .agg #[.bool b2, .string s2, .bool c2, .string t2] := hd.1.2
    have hx := Lib.hid (rat_frac (w := w') HY.out)
    go_step
    refine hx.out.mono ?_
    rintro e w2 ⟨g, rfl, h3, h1, h2⟩
    exact hK _ _ (hC.own 5 _ _ h2 h1.slot.lt (.inr h3)) (GE.below _ _ h2) ⟨_, rfl, h1⟩
  · intro a' γ w' hag hC hk hd K hK
    have e17 : a'.tmps.getD 17 undef = .func (.func 50) #[] #[] := hd.1.2
    have q18 : VP w2.heap.size w' (a'.tmps.getD 18 undef) := hd.2.1.2
    have gg18 : γ 1 = some (a'.tmps.getD 18 undef) := hd.2.1.1
    obtain ⟨g18, e18, hb18, hs18⟩ := q18
    rw [e18] at gg18
    have e18 : a'.tmps.getD 18 undef = .pointer (some ⟨g18, 0, none⟩) := e18
    have q20 : VQ (x) w' (a'.tmps.getD 20 undef) := hd.2.2.1.2
    have gg20 : γ 3 = some (a'.tmps.getD 20 undef) := hd.2.2.1.1
    obtain ⟨g20, e20, h20⟩ := q20
    rw [e20] at gg20
    have e20 : a'.tmps.getD 20 undef = .pointer (some ⟨g20, 0, none⟩) := e20
    have q22 : VQ (y) w' (a'.tmps.getD 22 undef) := hd.2.2.2.1.2
    have gg22 : γ 5 = some (a'.tmps.getD 22 undef) := hd.2.2.2.1.1
    obtain ⟨g22, e22, h22⟩ := q22
    rw [e22] at gg22
    have e22 : a'.tmps.getD 22 undef = .pointer (some ⟨g22, 0, none⟩) := e22
    have hx := Lib.hid (rSub_any hs18 h20 h22 HX.out.fit.okR HY.out.fit.okR)
    go_step
    refine hx.out.mono ?_
    rintro e w2 ⟨rfl, h1, h2⟩
    exact hK _ _ (hC.step 6 _ rfl (h2.below hb18 hC.size)) (GE.write 1 6 rfl hs18 h2 gg18 hk hb18) ⟨_, rfl, upd_some gg18 hk, hb18, h1⟩
  · intro a' γ w' hag hC hk hd K hK
    have q23 : VR w2.heap.size 1 ((fun x y => x - y) x y) γ w' (a'.tmps.getD 23 undef) := hd.1.2
    have gg23 : γ 6 = some (a'.tmps.getD 23 undef) := hd.1.1
    obtain ⟨g23, e23, ga23, hb23, h23⟩ := q23
    rw [e23] at gg23
    have e23 : a'.tmps.getD 23 undef = .pointer (some ⟨g23, 0, none⟩) := e23
    have hx := Lib.hid (answer_any h23 HOK.out)
    go_step
    refine hx.out.mono ?_
    rintro e w2 ⟨v, k, rfl, h1, h2⟩
    rw [(ans_eq h1).1, (ans_eq h1).2]
    exact hK _ _ (hC.step 7 _ rfl (h2.mono hC.size)) (GE.below _ _ h2) rfl
  · intro a' γ w' hag hC hk hd K hK
    have e24 : a'.tmps.getD 24 undef = .tuple #[ansV ((fun x y => x - y) x y), .int .i64 (ansK ((fun x y => x - y) x y))] := hd.1.2
    go_step
    exact hK _ _ (hC.step 8 _ rfl (Below.refl _ _)) (GE.refl _ _ _ _) rfl
  · intro a' γ w' hag hC hk hd K hK
    have e24 : a'.tmps.getD 24 undef = .tuple #[ansV ((fun x y => x - y) x y), .int .i64 (ansK ((fun x y => x - y) x y))] := hd.1.2
    go_step
    exact hK _ _ (hC.step 9 _ rfl (Below.refl _ _)) (GE.refl _ _ _ _) rfl
  · intro γ u w' hC hgh hall
    obtain ⟨u0, u1, u2, u3, u4, u5, u6, u7, u8, u9, _⟩ := hall
    have u0 : u 0 = .func (.func 50) #[] #[] := u0
    obtain ⟨g18, eu1, hb18, hs18⟩ := u1
    have u1 : u 1 = .pointer (some ⟨g18, 0, none⟩) := eu1
    have u2 : u 2 = .agg #[.bool b, .string s, .bool c, .string t] := u2
    have u4 : u 4 = .agg #[.bool b2, .string s2, .bool c2, .string t2] := u4
    have u7 : u 7 = .tuple #[ansV ((fun x y => x - y) x y), .int .i64 (ansK ((fun x y => x - y) x y))] := u7
    have u8 : u 8 = ansV ((fun x y => x - y) x y) := u8
    have u9 : u 9 = .int .i64 (ansK ((fun x y => x - y) x y)) := u9
    simp only [fillR, List.take_succ_cons, List.take_zero, Act.put, List.setIfInBounds_toArray, List.set_cons_succ, List.set_cons_zero, Nat.zero_add, Nat.reduceAdd, u0, u1, u2, u4, u7, u8, u9]
    clear u0 u1 u2 u4 u7 u8 u9
    have HC := Lib.hid (HW2.out.on hC.below)
    clear hC
    obtain ⟨pb, ps, pc, pt, hv⟩ := (ansV_ans ((fun x y => x - y) x y)).agg
    have HA := Lib.hid (ansV_ans ((fun x y => x - y) x y))
    rw [hv] at HA ⊢
    generalize ansK ((fun x y => x - y) x y) = k at HA ⊢
    clear hv
    have hp0 := HC.out.place.cell 0 _ rfl
    have hp1 := HC.out.place.cell 1 _ rfl
    have hp2 := HC.out.place.cell 2 _ rfl
    have hp3 := HC.out.place.cell 3 _ rfl
    have hf := HC.out.place.frozen
    go_wp2
    have hk := HC.out.place.put4 (.bool pb) (.string ps) (.bool pc) (.string pt)
    have k0 := hk.cell 0 _ rfl
    have k1 := hk.cell 1 _ rfl
    have k2 := hk.cell 2 _ rfl
    have k3 := hk.cell 3 _ rfl
    exact bodyPost_ret (v := .tuple #[.agg #[.bool pb, .string ps, .bool pc, .string pt], .int .i64 k]) (by simp [results, Tryz.results48, go_sem, k0, k1, k2, k3]) rfl ⟨_, _, rfl, .inl ⟨x, y, HX.out.fit, HY.out.fit, HX.out.val, HY.out.val, HA.out⟩, below_put4 HC.out.below (by omega) _ _ _ _⟩

set_option maxHeartbeats 3200000 in
set_option maxRecDepth 100000 in
theorem both_mul {w0 : World} (b c b2 c2 : Bool) (s t s2 t2 : ByteArray) (hs : s.size ≤ maxLen) (ht : t.size ≤ maxLen) (hs2 : s2.size ≤ maxLen) (ht2 : t2.size ≤ maxLen) :
    Calls Tryz.prog 48 #[.agg #[.bool b, .string s, .bool c, .string t], .agg #[.bool b2, .string s2, .bool c2, .string t2], .func (.func 51) #[] #[]] w0 (BinPost (fun x y => x * y) (.agg #[.bool b, .string s, .bool c, .string t]) (.agg #[.bool b2, .string s2, .bool c2, .string t2]) w0) := by
  have HS := Lib.hid hs
  have HT := Lib.hid ht
  have HS2 := Lib.hid hs2
  have HT2 := Lib.hid ht2
  have HW0 := Lib.hid (Two.new w0 #[.bool b, .string s, .bool c, .string t] #[.bool b2, .string s2, .bool c2, .string t2])
  clear hs ht hs2 ht2
  go_enter Tryz.func48, Tryz.ntmps48
  go_wp2_with fail
  refine (May_any b c s t HS.out HT.out).mono ?_
  rintro e w1 ⟨r, rfl, hr, hb⟩
  have HW1 := Lib.hid (HW0.out.on hb)
  have HR := Lib.hid hr
  clear hb hr
  cases r
  · have hp0 := HW1.out.place.cell 0 _ rfl
    have hp1 := HW1.out.place.cell 1 _ rfl
    have hp2 := HW1.out.place.cell 2 _ rfl
    have hp3 := HW1.out.place.cell 3 _ rfl
    have hf := HW1.out.place.frozen
    go_wp2
    have hk := HW1.out.place.put4 (.bool false) (.string ⟨#[]⟩) (.bool false) (.string ⟨#[]⟩)
    have k0 := hk.cell 0 _ rfl
    have k1 := hk.cell 1 _ rfl
    have k2 := hk.cell 2 _ rfl
    have k3 := hk.cell 3 _ rfl
    exact bodyPost_ret (v := .tuple #[frac0, .int .i64 2]) (by simp [results, Tryz.results48, go_sem, k0, k1, k2, k3, frac0]) rfl ⟨_, _, rfl, .inr ⟨.inl fun h => Bool.noConfusion (HR.out.2 h), rfl, rfl⟩, below_put4 HW1.out.below (by omega) _ _ _ _⟩
  have hc0 := HW1.out.two.cell 0 (.bool b2) rfl
  have hc1 := HW1.out.two.cell 1 (.string s2) rfl
  have hc2 := HW1.out.two.cell 2 (.bool c2) rfl
  have hc3 := HW1.out.two.cell 3 (.string t2) rfl
  go_wp2_with fail
  refine (May_any b2 c2 s2 t2 HS2.out HT2.out).mono ?_
  rintro e w2 ⟨r, rfl, hr, hb⟩
  have HW2 := Lib.hid (HW1.out.on hb)
  have HR2 := Lib.hid hr
  clear hb hr hc0 hc1 hc2 hc3
  cases r
  · have hp0 := HW2.out.place.cell 0 _ rfl
    have hp1 := HW2.out.place.cell 1 _ rfl
    have hp2 := HW2.out.place.cell 2 _ rfl
    have hp3 := HW2.out.place.cell 3 _ rfl
    have hf := HW2.out.place.frozen
    go_wp2
    have hk := HW2.out.place.put4 (.bool false) (.string ⟨#[]⟩) (.bool false) (.string ⟨#[]⟩)
    have k0 := hk.cell 0 _ rfl
    have k1 := hk.cell 1 _ rfl
    have k2 := hk.cell 2 _ rfl
    have k3 := hk.cell 3 _ rfl
    exact bodyPost_ret (v := .tuple #[frac0, .int .i64 2]) (by simp [results, Tryz.results48, go_sem, k0, k1, k2, k3, frac0]) rfl ⟨_, _, rfl, .inr ⟨.inr fun h => Bool.noConfusion (HR2.out.2 h), rfl, rfl⟩, below_put4 HW2.out.below (by omega) _ _ _ _⟩
  obtain ⟨x, hx⟩ := parts_of (by first | exact HR.out.1 rfl | exact HR.out.1 trivial)
  obtain ⟨y, hy⟩ := parts_of (by first | exact HR2.out.1 rfl | exact HR2.out.1 trivial)
  have HX := Lib.hid hx
  have HY := Lib.hid hy
  clear hx hy HR HR2 HW1 HW0
  go_wp2
  have hok := (HX.out.fit.sz.mul HY.out.fit.sz).okR (by decide)
  have HOK := Lib.hid hok
  clear hok
  refine wp_region_ghost 10 (GC w2.heap.size w2 [1, 3, 5]) (fun γ wq _ wr => GE w2.heap.size [(1, 6)] γ wq wr) (fun i γ wq v => match i with
      | 0 => v = .func (.func 51) #[] #[]
      | 1 => VP w2.heap.size wq v
      | 2 => v = .agg #[.bool b, .string s, .bool c, .string t]
      | 3 => VQ (x) wq v
      | 4 => v = .agg #[.bool b2, .string s2, .bool c2, .string t2]
      | 5 => VQ (y) wq v
      | 6 => VR w2.heap.size 1 ((fun x y => x * y) x y) γ wq v
      | 7 => v = .tuple #[ansV ((fun x y => x * y) x y), .int .i64 (ansK ((fun x y => x * y) x y))]
      | 8 => v = ansV ((fun x y => x * y) x y)
      | 9 => v = .int .i64 (ansK ((fun x y => x * y) x y))
      | _ => True) (by kernel_rfl) (by kernel_rfl) (by kernel_rfl) (GC.start _ (Nat.le_refl _)) ?_ ⟨?_, ?_, ?_, ?_, ?_, ?_, ?_, ?_, ?_, ?_, trivial⟩ ?_
  · intro i γ w1 k xq w2 v hC hC2 hE hk hi hV
    match i with
    | 0 => exact hV
    | 1 => exact VP.stable hV hE
    | 2 => exact hV
    | 3 => exact VQ.stable 3 hV hC hE hi rfl
    | 4 => exact hV
    | 5 => exact VQ.stable 5 hV hC hE hi rfl
    | 6 => exact VR.stable 6 k hV hC hE hk hi rfl
    | 7 => exact hV
    | 8 => exact hV
    | 9 => exact hV
    | _ + 10 => trivial
  · intro a' γ w' hag hC hk hd K hK
    have e2 : a'.tmps.getD 2 undef = .func (.func 51) #[] #[] := hag 2 rfl
    go_step
    exact hK _ _ (hC.step 0 _ rfl (Below.refl _ _)) (GE.refl _ _ _ _) rfl
  · intro a' γ w' hag hC hk hd K hK
    have hb := below_new w' (.cells #[.bool false, .slice none 0 0, .bool false, .slice none 0 0] 85)
    have HK := Lib.hid (hK (.pointer (some ⟨w'.heap.size, 0, none⟩)) _ (hC.own 1 _ _ hb (RatAt.new w').slot.lt (.inr (Nat.le_refl _))) (GE.below _ _ hb) ⟨_, rfl, hC.size, (RatAt.new w').slot⟩)
    clear hb hK hC
    go_step
    exact HK.out
  · intro a' γ w' hag hC hk hd K hK
    have e3 : a'.tmps.getD 3 undef = .pointer (some ⟨w0.heap.size, 0, none⟩) := hag 3 rfl
    have hT := HW2.out.on hC.below
    have hc0 := hT.one.cell 0 (.bool b) rfl
    have hc1 := hT.one.cell 1 (.string s) rfl
    have hc2 := hT.one.cell 2 (.bool c) rfl
    have hc3 := hT.one.cell 3 (.string t) rfl
    have HK := Lib.hid (hK (.agg #[.bool b, .string s, .bool c, .string t]) _ (hC.step 2 _ rfl (Below.refl _ _)) (GE.refl _ _ _ _) rfl)
    clear hK hC hT
    go_step
    exact HK.out
  · intro a' γ w' hag hC hk hd K hK
    have e19 : a'.tmps.getD 19 undef = .agg #[.bool b, .string s, .bool c, .string t] := hd.1.2
    have hx := Lib.hid (rat_frac (w := w') HX.out)
    go_step
    refine hx.out.mono ?_
    rintro e w2 ⟨g, rfl, h3, h1, h2⟩
    exact hK _ _ (hC.own 3 _ _ h2 h1.slot.lt (.inr h3)) (GE.below _ _ h2) ⟨_, rfl, h1⟩
  · intro a' γ w' hag hC hk hd K hK
    have e4 : a'.tmps.getD 4 undef = .pointer (some ⟨w0.heap.size + 1, 0, none⟩) := hag 4 rfl
    have hT := HW2.out.on hC.below
    have hc0 := hT.two.cell 0 (.bool b2) rfl
    have hc1 := hT.two.cell 1 (.string s2) rfl
    have hc2 := hT.two.cell 2 (.bool c2) rfl
    have hc3 := hT.two.cell 3 (.string t2) rfl
    have HK := Lib.hid (hK (.agg #[.bool b2, .string s2, .bool c2, .string t2]) _ (hC.step 4 _ rfl (Below.refl _ _)) (GE.refl _ _ _ _) rfl)
    clear hK hC hT
    go_step
    exact HK.out
  · intro a' γ w' hag hC hk hd K hK
    have e21 : a'.tmps.getD 21 undef = .agg #[.bool b2, .string s2, .bool c2, .string t2] := hd.1.2
    have hx := Lib.hid (rat_frac (w := w') HY.out)
    go_step
    refine hx.out.mono ?_
    rintro e w2 ⟨g, rfl, h3, h1, h2⟩
    exact hK _ _ (hC.own 5 _ _ h2 h1.slot.lt (.inr h3)) (GE.below _ _ h2) ⟨_, rfl, h1⟩
  · intro a' γ w' hag hC hk hd K hK
    have e17 : a'.tmps.getD 17 undef = .func (.func 51) #[] #[] := hd.1.2
    have q18 : VP w2.heap.size w' (a'.tmps.getD 18 undef) := hd.2.1.2
    have gg18 : γ 1 = some (a'.tmps.getD 18 undef) := hd.2.1.1
    obtain ⟨g18, e18, hb18, hs18⟩ := q18
    rw [e18] at gg18
    have e18 : a'.tmps.getD 18 undef = .pointer (some ⟨g18, 0, none⟩) := e18
    have q20 : VQ (x) w' (a'.tmps.getD 20 undef) := hd.2.2.1.2
    have gg20 : γ 3 = some (a'.tmps.getD 20 undef) := hd.2.2.1.1
    obtain ⟨g20, e20, h20⟩ := q20
    rw [e20] at gg20
    have e20 : a'.tmps.getD 20 undef = .pointer (some ⟨g20, 0, none⟩) := e20
    have q22 : VQ (y) w' (a'.tmps.getD 22 undef) := hd.2.2.2.1.2
    have gg22 : γ 5 = some (a'.tmps.getD 22 undef) := hd.2.2.2.1.1
    obtain ⟨g22, e22, h22⟩ := q22
    rw [e22] at gg22
    have e22 : a'.tmps.getD 22 undef = .pointer (some ⟨g22, 0, none⟩) := e22
    have hx := Lib.hid (rMul_any hs18 h20 h22 HX.out.fit.okR HY.out.fit.okR)
    go_step
    refine hx.out.mono ?_
    rintro e w2 ⟨rfl, h1, h2⟩
    exact hK _ _ (hC.step 6 _ rfl (h2.below hb18 hC.size)) (GE.write 1 6 rfl hs18 h2 gg18 hk hb18) ⟨_, rfl, upd_some gg18 hk, hb18, h1⟩
  · intro a' γ w' hag hC hk hd K hK
    have q23 : VR w2.heap.size 1 ((fun x y => x * y) x y) γ w' (a'.tmps.getD 23 undef) := hd.1.2
    have gg23 : γ 6 = some (a'.tmps.getD 23 undef) := hd.1.1
    obtain ⟨g23, e23, ga23, hb23, h23⟩ := q23
    rw [e23] at gg23
    have e23 : a'.tmps.getD 23 undef = .pointer (some ⟨g23, 0, none⟩) := e23
    have hx := Lib.hid (answer_any h23 HOK.out)
    go_step
    refine hx.out.mono ?_
    rintro e w2 ⟨v, k, rfl, h1, h2⟩
    rw [(ans_eq h1).1, (ans_eq h1).2]
    exact hK _ _ (hC.step 7 _ rfl (h2.mono hC.size)) (GE.below _ _ h2) rfl
  · intro a' γ w' hag hC hk hd K hK
    have e24 : a'.tmps.getD 24 undef = .tuple #[ansV ((fun x y => x * y) x y), .int .i64 (ansK ((fun x y => x * y) x y))] := hd.1.2
    go_step
    exact hK _ _ (hC.step 8 _ rfl (Below.refl _ _)) (GE.refl _ _ _ _) rfl
  · intro a' γ w' hag hC hk hd K hK
    have e24 : a'.tmps.getD 24 undef = .tuple #[ansV ((fun x y => x * y) x y), .int .i64 (ansK ((fun x y => x * y) x y))] := hd.1.2
    go_step
    exact hK _ _ (hC.step 9 _ rfl (Below.refl _ _)) (GE.refl _ _ _ _) rfl
  · intro γ u w' hC hgh hall
    obtain ⟨u0, u1, u2, u3, u4, u5, u6, u7, u8, u9, _⟩ := hall
    have u0 : u 0 = .func (.func 51) #[] #[] := u0
    obtain ⟨g18, eu1, hb18, hs18⟩ := u1
    have u1 : u 1 = .pointer (some ⟨g18, 0, none⟩) := eu1
    have u2 : u 2 = .agg #[.bool b, .string s, .bool c, .string t] := u2
    have u4 : u 4 = .agg #[.bool b2, .string s2, .bool c2, .string t2] := u4
    have u7 : u 7 = .tuple #[ansV ((fun x y => x * y) x y), .int .i64 (ansK ((fun x y => x * y) x y))] := u7
    have u8 : u 8 = ansV ((fun x y => x * y) x y) := u8
    have u9 : u 9 = .int .i64 (ansK ((fun x y => x * y) x y)) := u9
    simp only [fillR, List.take_succ_cons, List.take_zero, Act.put, List.setIfInBounds_toArray, List.set_cons_succ, List.set_cons_zero, Nat.zero_add, Nat.reduceAdd, u0, u1, u2, u4, u7, u8, u9]
    clear u0 u1 u2 u4 u7 u8 u9
    have HC := Lib.hid (HW2.out.on hC.below)
    clear hC
    obtain ⟨pb, ps, pc, pt, hv⟩ := (ansV_ans ((fun x y => x * y) x y)).agg
    have HA := Lib.hid (ansV_ans ((fun x y => x * y) x y))
    rw [hv] at HA ⊢
    generalize ansK ((fun x y => x * y) x y) = k at HA ⊢
    clear hv
    have hp0 := HC.out.place.cell 0 _ rfl
    have hp1 := HC.out.place.cell 1 _ rfl
    have hp2 := HC.out.place.cell 2 _ rfl
    have hp3 := HC.out.place.cell 3 _ rfl
    have hf := HC.out.place.frozen
    go_wp2
    have hk := HC.out.place.put4 (.bool pb) (.string ps) (.bool pc) (.string pt)
    have k0 := hk.cell 0 _ rfl
    have k1 := hk.cell 1 _ rfl
    have k2 := hk.cell 2 _ rfl
    have k3 := hk.cell 3 _ rfl
    exact bodyPost_ret (v := .tuple #[.agg #[.bool pb, .string ps, .bool pc, .string pt], .int .i64 k]) (by simp [results, Tryz.results48, go_sem, k0, k1, k2, k3]) rfl ⟨_, _, rfl, .inl ⟨x, y, HX.out.fit, HY.out.fit, HX.out.val, HY.out.val, HA.out⟩, below_put4 HC.out.below (by omega) _ _ _ _⟩

set_option maxHeartbeats 3200000 in
set_option maxRecDepth 100000 in
theorem both_quo {w0 : World} (b c b2 c2 : Bool) (s t s2 t2 : ByteArray) (hs : s.size ≤ maxLen) (ht : t.size ≤ maxLen) (hs2 : s2.size ≤ maxLen) (ht2 : t2.size ≤ maxLen) (hy0 : IsFrac (.agg #[.bool b, .string s, .bool c, .string t]) → ∀ y, (Value.agg #[.bool b2, .string s2, .bool c2, .string t2]) = fracV y → y ≠ 0) :
    Calls Tryz.prog 48 #[.agg #[.bool b, .string s, .bool c, .string t], .agg #[.bool b2, .string s2, .bool c2, .string t2], .func (.func 52) #[] #[]] w0 (BinPost (fun x y => x / y) (.agg #[.bool b, .string s, .bool c, .string t]) (.agg #[.bool b2, .string s2, .bool c2, .string t2]) w0) := by
  have HS := Lib.hid hs
  have HT := Lib.hid ht
  have HS2 := Lib.hid hs2
  have HT2 := Lib.hid ht2
  have HW0 := Lib.hid (Two.new w0 #[.bool b, .string s, .bool c, .string t] #[.bool b2, .string s2, .bool c2, .string t2])
  have HYZ := Lib.hid hy0
  clear hs ht hs2 ht2 hy0
  go_enter Tryz.func48, Tryz.ntmps48
  go_wp2_with fail
  refine (May_any b c s t HS.out HT.out).mono ?_
  rintro e w1 ⟨r, rfl, hr, hb⟩
  have HW1 := Lib.hid (HW0.out.on hb)
  have HR := Lib.hid hr
  clear hb hr
  cases r
  · have hp0 := HW1.out.place.cell 0 _ rfl
    have hp1 := HW1.out.place.cell 1 _ rfl
    have hp2 := HW1.out.place.cell 2 _ rfl
    have hp3 := HW1.out.place.cell 3 _ rfl
    have hf := HW1.out.place.frozen
    go_wp2
    have hk := HW1.out.place.put4 (.bool false) (.string ⟨#[]⟩) (.bool false) (.string ⟨#[]⟩)
    have k0 := hk.cell 0 _ rfl
    have k1 := hk.cell 1 _ rfl
    have k2 := hk.cell 2 _ rfl
    have k3 := hk.cell 3 _ rfl
    exact bodyPost_ret (v := .tuple #[frac0, .int .i64 2]) (by simp [results, Tryz.results48, go_sem, k0, k1, k2, k3, frac0]) rfl ⟨_, _, rfl, .inr ⟨.inl fun h => Bool.noConfusion (HR.out.2 h), rfl, rfl⟩, below_put4 HW1.out.below (by omega) _ _ _ _⟩
  have hc0 := HW1.out.two.cell 0 (.bool b2) rfl
  have hc1 := HW1.out.two.cell 1 (.string s2) rfl
  have hc2 := HW1.out.two.cell 2 (.bool c2) rfl
  have hc3 := HW1.out.two.cell 3 (.string t2) rfl
  go_wp2_with fail
  refine (May_any b2 c2 s2 t2 HS2.out HT2.out).mono ?_
  rintro e w2 ⟨r, rfl, hr, hb⟩
  have HW2 := Lib.hid (HW1.out.on hb)
  have HR2 := Lib.hid hr
  clear hb hr hc0 hc1 hc2 hc3
  cases r
  · have hp0 := HW2.out.place.cell 0 _ rfl
    have hp1 := HW2.out.place.cell 1 _ rfl
    have hp2 := HW2.out.place.cell 2 _ rfl
    have hp3 := HW2.out.place.cell 3 _ rfl
    have hf := HW2.out.place.frozen
    go_wp2
    have hk := HW2.out.place.put4 (.bool false) (.string ⟨#[]⟩) (.bool false) (.string ⟨#[]⟩)
    have k0 := hk.cell 0 _ rfl
    have k1 := hk.cell 1 _ rfl
    have k2 := hk.cell 2 _ rfl
    have k3 := hk.cell 3 _ rfl
    exact bodyPost_ret (v := .tuple #[frac0, .int .i64 2]) (by simp [results, Tryz.results48, go_sem, k0, k1, k2, k3, frac0]) rfl ⟨_, _, rfl, .inr ⟨.inr fun h => Bool.noConfusion (HR2.out.2 h), rfl, rfl⟩, below_put4 HW2.out.below (by omega) _ _ _ _⟩
  obtain ⟨x, hx⟩ := parts_of (by first | exact HR.out.1 rfl | exact HR.out.1 trivial)
  obtain ⟨y, hy⟩ := parts_of (by first | exact HR2.out.1 rfl | exact HR2.out.1 trivial)
  have HX := Lib.hid hx
  have HY := Lib.hid hy
  have HY0 := Lib.hid (HYZ.out HX.out.isFrac y hy.val)
  clear hx hy HR HR2 HW1 HW0
  go_wp2
  have hok := (HX.out.fit.sz.div HY.out.fit.sz HY0.out).okR (by decide)
  have HOK := Lib.hid hok
  clear hok
  refine wp_region_ghost 10 (GC w2.heap.size w2 [1, 3, 5]) (fun γ wq _ wr => GE w2.heap.size [(1, 6)] γ wq wr) (fun i γ wq v => match i with
      | 0 => v = .func (.func 52) #[] #[]
      | 1 => VP w2.heap.size wq v
      | 2 => v = .agg #[.bool b, .string s, .bool c, .string t]
      | 3 => VQ (x) wq v
      | 4 => v = .agg #[.bool b2, .string s2, .bool c2, .string t2]
      | 5 => VQ (y) wq v
      | 6 => VR w2.heap.size 1 ((fun x y => x / y) x y) γ wq v
      | 7 => v = .tuple #[ansV ((fun x y => x / y) x y), .int .i64 (ansK ((fun x y => x / y) x y))]
      | 8 => v = ansV ((fun x y => x / y) x y)
      | 9 => v = .int .i64 (ansK ((fun x y => x / y) x y))
      | _ => True) (by kernel_rfl) (by kernel_rfl) (by kernel_rfl) (GC.start _ (Nat.le_refl _)) ?_ ⟨?_, ?_, ?_, ?_, ?_, ?_, ?_, ?_, ?_, ?_, trivial⟩ ?_
  · intro i γ w1 k xq w2 v hC hC2 hE hk hi hV
    match i with
    | 0 => exact hV
    | 1 => exact VP.stable hV hE
    | 2 => exact hV
    | 3 => exact VQ.stable 3 hV hC hE hi rfl
    | 4 => exact hV
    | 5 => exact VQ.stable 5 hV hC hE hi rfl
    | 6 => exact VR.stable 6 k hV hC hE hk hi rfl
    | 7 => exact hV
    | 8 => exact hV
    | 9 => exact hV
    | _ + 10 => trivial
  · intro a' γ w' hag hC hk hd K hK
    have e2 : a'.tmps.getD 2 undef = .func (.func 52) #[] #[] := hag 2 rfl
    go_step
    exact hK _ _ (hC.step 0 _ rfl (Below.refl _ _)) (GE.refl _ _ _ _) rfl
  · intro a' γ w' hag hC hk hd K hK
    have hb := below_new w' (.cells #[.bool false, .slice none 0 0, .bool false, .slice none 0 0] 85)
    have HK := Lib.hid (hK (.pointer (some ⟨w'.heap.size, 0, none⟩)) _ (hC.own 1 _ _ hb (RatAt.new w').slot.lt (.inr (Nat.le_refl _))) (GE.below _ _ hb) ⟨_, rfl, hC.size, (RatAt.new w').slot⟩)
    clear hb hK hC
    go_step
    exact HK.out
  · intro a' γ w' hag hC hk hd K hK
    have e3 : a'.tmps.getD 3 undef = .pointer (some ⟨w0.heap.size, 0, none⟩) := hag 3 rfl
    have hT := HW2.out.on hC.below
    have hc0 := hT.one.cell 0 (.bool b) rfl
    have hc1 := hT.one.cell 1 (.string s) rfl
    have hc2 := hT.one.cell 2 (.bool c) rfl
    have hc3 := hT.one.cell 3 (.string t) rfl
    have HK := Lib.hid (hK (.agg #[.bool b, .string s, .bool c, .string t]) _ (hC.step 2 _ rfl (Below.refl _ _)) (GE.refl _ _ _ _) rfl)
    clear hK hC hT
    go_step
    exact HK.out
  · intro a' γ w' hag hC hk hd K hK
    have e19 : a'.tmps.getD 19 undef = .agg #[.bool b, .string s, .bool c, .string t] := hd.1.2
    have hx := Lib.hid (rat_frac (w := w') HX.out)
    go_step
    refine hx.out.mono ?_
    rintro e w2 ⟨g, rfl, h3, h1, h2⟩
    exact hK _ _ (hC.own 3 _ _ h2 h1.slot.lt (.inr h3)) (GE.below _ _ h2) ⟨_, rfl, h1⟩
  · intro a' γ w' hag hC hk hd K hK
    have e4 : a'.tmps.getD 4 undef = .pointer (some ⟨w0.heap.size + 1, 0, none⟩) := hag 4 rfl
    have hT := HW2.out.on hC.below
    have hc0 := hT.two.cell 0 (.bool b2) rfl
    have hc1 := hT.two.cell 1 (.string s2) rfl
    have hc2 := hT.two.cell 2 (.bool c2) rfl
    have hc3 := hT.two.cell 3 (.string t2) rfl
    have HK := Lib.hid (hK (.agg #[.bool b2, .string s2, .bool c2, .string t2]) _ (hC.step 4 _ rfl (Below.refl _ _)) (GE.refl _ _ _ _) rfl)
    clear hK hC hT
    go_step
    exact HK.out
  · intro a' γ w' hag hC hk hd K hK
    have e21 : a'.tmps.getD 21 undef = .agg #[.bool b2, .string s2, .bool c2, .string t2] := hd.1.2
    have hx := Lib.hid (rat_frac (w := w') HY.out)
    go_step
    refine hx.out.mono ?_
    rintro e w2 ⟨g, rfl, h3, h1, h2⟩
    exact hK _ _ (hC.own 5 _ _ h2 h1.slot.lt (.inr h3)) (GE.below _ _ h2) ⟨_, rfl, h1⟩
  · intro a' γ w' hag hC hk hd K hK
    have e17 : a'.tmps.getD 17 undef = .func (.func 52) #[] #[] := hd.1.2
    have q18 : VP w2.heap.size w' (a'.tmps.getD 18 undef) := hd.2.1.2
    have gg18 : γ 1 = some (a'.tmps.getD 18 undef) := hd.2.1.1
    obtain ⟨g18, e18, hb18, hs18⟩ := q18
    rw [e18] at gg18
    have e18 : a'.tmps.getD 18 undef = .pointer (some ⟨g18, 0, none⟩) := e18
    have q20 : VQ (x) w' (a'.tmps.getD 20 undef) := hd.2.2.1.2
    have gg20 : γ 3 = some (a'.tmps.getD 20 undef) := hd.2.2.1.1
    obtain ⟨g20, e20, h20⟩ := q20
    rw [e20] at gg20
    have e20 : a'.tmps.getD 20 undef = .pointer (some ⟨g20, 0, none⟩) := e20
    have q22 : VQ (y) w' (a'.tmps.getD 22 undef) := hd.2.2.2.1.2
    have gg22 : γ 5 = some (a'.tmps.getD 22 undef) := hd.2.2.2.1.1
    obtain ⟨g22, e22, h22⟩ := q22
    rw [e22] at gg22
    have e22 : a'.tmps.getD 22 undef = .pointer (some ⟨g22, 0, none⟩) := e22
    have hx := Lib.hid (rQuo_any hs18 h20 h22 HX.out.fit.okR HY.out.fit.okR HY0.out)
    go_step
    refine hx.out.mono ?_
    rintro e w2 ⟨rfl, h1, h2⟩
    exact hK _ _ (hC.step 6 _ rfl (h2.below hb18 hC.size)) (GE.write 1 6 rfl hs18 h2 gg18 hk hb18) ⟨_, rfl, upd_some gg18 hk, hb18, h1⟩
  · intro a' γ w' hag hC hk hd K hK
    have q23 : VR w2.heap.size 1 ((fun x y => x / y) x y) γ w' (a'.tmps.getD 23 undef) := hd.1.2
    have gg23 : γ 6 = some (a'.tmps.getD 23 undef) := hd.1.1
    obtain ⟨g23, e23, ga23, hb23, h23⟩ := q23
    rw [e23] at gg23
    have e23 : a'.tmps.getD 23 undef = .pointer (some ⟨g23, 0, none⟩) := e23
    have hx := Lib.hid (answer_any h23 HOK.out)
    go_step
    refine hx.out.mono ?_
    rintro e w2 ⟨v, k, rfl, h1, h2⟩
    rw [(ans_eq h1).1, (ans_eq h1).2]
    exact hK _ _ (hC.step 7 _ rfl (h2.mono hC.size)) (GE.below _ _ h2) rfl
  · intro a' γ w' hag hC hk hd K hK
    have e24 : a'.tmps.getD 24 undef = .tuple #[ansV ((fun x y => x / y) x y), .int .i64 (ansK ((fun x y => x / y) x y))] := hd.1.2
    go_step
    exact hK _ _ (hC.step 8 _ rfl (Below.refl _ _)) (GE.refl _ _ _ _) rfl
  · intro a' γ w' hag hC hk hd K hK
    have e24 : a'.tmps.getD 24 undef = .tuple #[ansV ((fun x y => x / y) x y), .int .i64 (ansK ((fun x y => x / y) x y))] := hd.1.2
    go_step
    exact hK _ _ (hC.step 9 _ rfl (Below.refl _ _)) (GE.refl _ _ _ _) rfl
  · intro γ u w' hC hgh hall
    obtain ⟨u0, u1, u2, u3, u4, u5, u6, u7, u8, u9, _⟩ := hall
    have u0 : u 0 = .func (.func 52) #[] #[] := u0
    obtain ⟨g18, eu1, hb18, hs18⟩ := u1
    have u1 : u 1 = .pointer (some ⟨g18, 0, none⟩) := eu1
    have u2 : u 2 = .agg #[.bool b, .string s, .bool c, .string t] := u2
    have u4 : u 4 = .agg #[.bool b2, .string s2, .bool c2, .string t2] := u4
    have u7 : u 7 = .tuple #[ansV ((fun x y => x / y) x y), .int .i64 (ansK ((fun x y => x / y) x y))] := u7
    have u8 : u 8 = ansV ((fun x y => x / y) x y) := u8
    have u9 : u 9 = .int .i64 (ansK ((fun x y => x / y) x y)) := u9
    simp only [fillR, List.take_succ_cons, List.take_zero, Act.put, List.setIfInBounds_toArray, List.set_cons_succ, List.set_cons_zero, Nat.zero_add, Nat.reduceAdd, u0, u1, u2, u4, u7, u8, u9]
    clear u0 u1 u2 u4 u7 u8 u9
    have HC := Lib.hid (HW2.out.on hC.below)
    clear hC
    obtain ⟨pb, ps, pc, pt, hv⟩ := (ansV_ans ((fun x y => x / y) x y)).agg
    have HA := Lib.hid (ansV_ans ((fun x y => x / y) x y))
    rw [hv] at HA ⊢
    generalize ansK ((fun x y => x / y) x y) = k at HA ⊢
    clear hv
    have hp0 := HC.out.place.cell 0 _ rfl
    have hp1 := HC.out.place.cell 1 _ rfl
    have hp2 := HC.out.place.cell 2 _ rfl
    have hp3 := HC.out.place.cell 3 _ rfl
    have hf := HC.out.place.frozen
    go_wp2
    have hk := HC.out.place.put4 (.bool pb) (.string ps) (.bool pc) (.string pt)
    have k0 := hk.cell 0 _ rfl
    have k1 := hk.cell 1 _ rfl
    have k2 := hk.cell 2 _ rfl
    have k3 := hk.cell 3 _ rfl
    exact bodyPost_ret (v := .tuple #[.agg #[.bool pb, .string ps, .bool pc, .string pt], .int .i64 k]) (by simp [results, Tryz.results48, go_sem, k0, k1, k2, k3]) rfl ⟨_, _, rfl, .inl ⟨x, y, HX.out.fit, HY.out.fit, HX.out.val, HY.out.val, HA.out⟩, below_put4 HC.out.below (by omega) _ _ _ _⟩
end Go.Proofs.YtaenedjanckaiaaGreat
