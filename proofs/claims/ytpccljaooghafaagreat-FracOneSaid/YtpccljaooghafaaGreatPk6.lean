/- May, Sz, Gqa. -/
import Derived.Test.YtpccljaooghafaaGreatPk5
set_option linter.unnecessarySimpa false
set_option linter.unusedVariables false
set_option linter.unusedSimpArgs false
section
namespace Go.Proofs.YtpccljaooghafaaGreat
open Go.RowKit
theorem wl_size {n : Nat} {k : Nat} (h : (mag n).size ≤ k) : (dig n).length ≤ (k + 3) / 4:=by
  refine dig_len_le _ _ ?_
  rw [mag_size_le,p256] at h
  rw [p32]
  exact Nat.lt_of_lt_of_le h (Nat.pow_le_pow_right (by decide) (by omega))
theorem okn_size {n : Int} (h : (mag n.natAbs).size ≤ 16384) : Okn n:=by
  have:=wl_size h
  unfold Okn
  omega
theorem mag_mono {a b k : Nat} (h : a ≤ b) (hk : (mag b).size ≤ k) : (mag a).size ≤ k:=by
  rw [mag_size_le] at *
  omega
theorem num_le (n d : Int) (hd : d ≠ 0) : (Rat.divInt n d).num.natAbs ≤ n.natAbs:=by
  rw [Rat.num_divInt]
  refine Nat.le_trans (Int.natAbs_ediv_le_natAbs _ _) ?_
  rw [Int.natAbs_mul]
  have h : d.sign.natAbs ≤ 1:=by
    rcases Int.lt_trichotomy d 0 with h | h | h
    · rw [Int.sign_eq_neg_one_of_neg h]; decide
    · exact absurd h hd
    · rw [Int.sign_eq_one_of_pos h]; decide
  calc d.sign.natAbs * n.natAbs ≤ 1 * n.natAbs:=Nat.mul_le_mul_right _ h
    _ = n.natAbs:=Nat.one_mul _
theorem den_le (n d : Int) (hd : d ≠ 0) : (Rat.divInt n d).den ≤ d.natAbs:=by
  rw [Rat.den_divInt,if_neg hd]
  exact Nat.div_le_self _ _
theorem okR_divInt {n d : Int} (hd : d ≠ 0) (h1 : (mag n.natAbs).size ≤ 16384) (h2 : (mag d.natAbs).size ≤ 16384) : OkR (Rat.divInt n d):=by
  have k1:=wl_size (mag_mono (num_le n d hd) h1)
  have k2:=wl_size (mag_mono (den_le n d hd) h2)
  refine ⟨?_,?_⟩
  · show (dig _).length ≤ _
    omega
  · show (dig (((Rat.divInt n d).den : Int)).natAbs).length ≤ _
    rw [Int.natAbs_natCast]
    omega
theorem Fit.okR {q : Rat} (h : Fit q) : OkR q:=by
  have k1:=wl_size h.1
  have k2:=wl_size h.2
  refine ⟨?_,?_⟩
  · show (dig _).length ≤ _
    omega
  · show (dig ((q.den : Int)).natAbs).length ≤ _
    rw [Int.natAbs_natCast]
    omega
def IsFrac (v : Value) : Prop:=∃ q,Fit q ∧ v = fracV q
theorem agg4 {b c b' c' : Bool} {s t s' t' : ByteArray} (h : (Value.agg #[.bool b,.string s,.bool c,.string t]) = .agg #[.bool b',.string s',.bool c',.string t']) : b = b' ∧ s = s' ∧ c = c' ∧ t = t':=by
  injection h with h
  injection h with h
  injection h with h1 h
  injection h with h2 h
  injection h with h3 h
  injection h with h4 _
  injection h1 with h1
  injection h2 with h2
  injection h3 with h3
  injection h4 with h4
  exact ⟨h1,h2,h3,h4⟩
theorem isFrac_parts {b c : Bool} {s t : ByteArray} (h : IsFrac (.agg #[.bool b,.string s,.bool c,.string t])) :
    WholeOk b s ∧ WholeOk c t ∧ s.size ≤ 1024 ∧ t.size ≤ 1024 ∧ 0 < (numOf c t) ∧ (Value.agg #[.bool b,.string s,.bool c,.string t]) = fracV (Rat.divInt (numOf b s) (numOf c t)):=by
  obtain ⟨q,hf,hv⟩:=h
  obtain ⟨rfl,rfl,rfl,rfl⟩:=agg4 hv
  have h1:=ok_wholeV q.num (Nat.le_trans hf.1 (by decide))
  have h2:=ok_wholeV (q.den : Int) (by rw [Int.natAbs_natCast]; exact Nat.le_trans hf.2 (by decide))
  have e : decide ((q.den : Int) < 0) = false:=by simp
  rw [e,Int.natAbs_natCast] at h2
  have n1:=numOf_mag q.num
  have n2:=numOf_mag (q.den : Int)
  rw [e,Int.natAbs_natCast] at n2
  refine ⟨h1,h2,hf.1,hf.2,?_,?_⟩
  · rw [n2]; have:=q.den_pos; omega
  · rw [n1,n2,Rat.num_divInt_den]
    rfl
theorem isFrac_of {b c : Bool} {s t : ByteArray} (h1 : s.size ≤ 1024) (h2 : t.size ≤ 1024) {q : Rat} (h : (Value.agg #[.bool b,.string s,.bool c,.string t]) = fracV q) : IsFrac (.agg #[.bool b,.string s,.bool c,.string t]):=by
  refine ⟨q,?_,h⟩
  obtain ⟨rfl,rfl,rfl,rfl⟩:=agg4 h
  exact ⟨h1,h2⟩
theorem toList_inj {a b : ByteArray} : a.toList = b.toList ↔ a = b:=by
  constructor
  · intro h
    rw [ByteArray.toList_eq,ByteArray.toList_eq] at h
    obtain ⟨⟨x⟩⟩:=a
    obtain ⟨⟨y⟩⟩:=b
    have : x = y:=h
    rw [this]
  · rintro rfl; rfl
theorem may_key {q0 : Rat} {b c p : Bool} {s t s' t' : ByteArray} (h0 : q0 = Rat.divInt (numOf b s) (numOf c t)) (hp : p = decide (q0.num < 0)) (hs : s' = mag q0.num.natAbs) (ht : t' = mag q0.den) (h3 : s.size ≤ 1024) (h4 : t.size ≤ 1024) :
    ((p == b && s'.toList == s.toList) && (false == c && t'.toList == t.toList)) = true ↔ IsFrac (.agg #[.bool b,.string s,.bool c,.string t]):=by
  have e0 : fracV q0 = .agg #[.bool p,.string s',.bool false,.string t']:=by rw [hp,hs,ht]; rfl
  simp only [Bool.and_eq_true,beq_iff_eq,toList_inj]
  constructor
  · rintro ⟨⟨rfl,rfl⟩,rfl,rfl⟩
    exact isFrac_of h3 h4 e0.symm
  · intro h
    obtain ⟨_,_,_,_,_,h6⟩:=isFrac_parts h
    rw [← h0,e0] at h6
    obtain ⟨h1,h2,h3,h4⟩:=agg4 h6
    exact ⟨⟨h1.symm,h2.symm⟩,h3.symm,h4.symm⟩
theorem eqtree {α : Type} (p b c : Bool) (s s' t t' : ByteArray) (X Y : α) : (if p = b then if s.toList = s'.toList then if c = true then Y else if t.toList = t'.toList then X else Y else Y else Y) = if ((p == b && s.toList == s'.toList) && (false == c && t.toList == t'.toList)) = true then X else Y:=by
  by_cases h1 : p = b <;> by_cases h2 : s.toList = s'.toList <;> cases c <;> by_cases h4 : t.toList = t'.toList <;> simp [h1,h2,h4]
def MayPost (w0 : World) (v : Value) (e : Ending) (w' : World) : Prop:=∃ r,e = .returned (.bool r) ∧ (r = true ↔ IsFrac v) ∧ Below w0.heap.size w0 w'
set_option maxHeartbeats 1600000 in
set_option maxRecDepth 100000 in
theorem May_any {w0 : World} (b c : Bool) (s t : ByteArray) (hs : s.size ≤ maxLen) (ht : t.size ≤ maxLen) :
    Calls Tryz.prog 140 #[.agg #[.bool b,.string s,.bool c,.string t]] w0 (MayPost w0 (.agg #[.bool b,.string s,.bool c,.string t])):=by
  have HS:=Lib.hid hs
  have HT:=Lib.hid ht
  have HW0:=Lib.hid (below_new w0 (.cells #[.bool b,.string s,.bool c,.string t] 25))
  have HX0:=Lib.hid (BoxAt.new w0 #[.bool b,.string s,.bool c,.string t] 25)
  clear hs ht
  have hc0:=HX0.out.cell 0 (.bool b) rfl
  have hc1:=HX0.out.cell 1 (.string s) rfl
  have hc2:=HX0.out.cell 2 (.bool c) rfl
  have hc3:=HX0.out.cell 3 (.string t) rfl
  go_enter Tryz.func140,Tryz.ntmps140
  by_cases h1 : WholeOk b s
  · have H1:=Lib.hid h1
    clear h1
    go_wp2_with fail
    refine (Check_any b s HS.out).mono ?_
    rintro e w1 ⟨k,rfl,hk,hb⟩
    obtain rfl : k = 0:=hk.elim (fun h=>h.1) (fun h=>absurd H1.out h.2)
    clear hk
    have HX1:=Lib.hid (HX0.out.on hb)
    have HW1:=Lib.hid (HW0.out.trans (hb.mono HW0.out.size))
    clear hb hc0 hc1 hc2 hc3
    have hc0:=HX1.out.cell 0 (.bool b) rfl
    have hc1:=HX1.out.cell 1 (.string s) rfl
    have hc2:=HX1.out.cell 2 (.bool c) rfl
    have hc3:=HX1.out.cell 3 (.string t) rfl
    by_cases h2 : WholeOk c t
    · have H2:=Lib.hid h2
      clear h2
      go_wp2_with fail
      refine (Check_any c t HT.out).mono ?_
      rintro e w2 ⟨k,rfl,hk,hb⟩
      obtain rfl : k = 0:=hk.elim (fun h=>h.1) (fun h=>absurd H2.out h.2)
      clear hk
      have HX2:=Lib.hid (HX1.out.on hb)
      have HW2:=Lib.hid (HW1.out.trans (hb.mono HW1.out.size))
      clear hb hc0 hc1 hc2 hc3
      have hc0:=HX2.out.cell 0 (.bool b) rfl
      have hc1:=HX2.out.cell 1 (.string s) rfl
      have hc2:=HX2.out.cell 2 (.bool c) rfl
      have hc3:=HX2.out.cell 3 (.string t) rfl
      by_cases h3 : s.size ≤ 1024
      · have H3:=Lib.hid h3
        go_wp2_with fail
        refine (shortF_any b s true (by simpa using h3)).mono ?_
        rintro e w3 ⟨rfl,hb⟩
        have HX3:=Lib.hid (HX2.out.on hb)
        have HW3:=Lib.hid (HW2.out.trans (hb.mono HW2.out.size))
        clear hb hc0 hc1 hc2 hc3
        have hc0:=HX3.out.cell 0 (.bool b) rfl
        have hc1:=HX3.out.cell 1 (.string s) rfl
        have hc2:=HX3.out.cell 2 (.bool c) rfl
        have hc3:=HX3.out.cell 3 (.string t) rfl
        clear h3
        by_cases h4 : t.size ≤ 1024
        · have H4:=Lib.hid h4
          go_wp2_with fail
          refine (shortF_any c t true (by simpa using h4)).mono ?_
          rintro e w4 ⟨rfl,hb⟩
          have HX4:=Lib.hid (HX3.out.on hb)
          have HW4:=Lib.hid (HW3.out.trans (hb.mono HW3.out.size))
          clear hb hc0 hc1 hc2 hc3
          have hc0:=HX4.out.cell 0 (.bool b) rfl
          have hc1:=HX4.out.cell 1 (.string s) rfl
          have hc2:=HX4.out.cell 2 (.bool c) rfl
          have hc3:=HX4.out.cell 3 (.string t) rfl
          clear h4
          have hn:=numOf_ok H2.out
          by_cases h5 : 0 < numOf c t
          · have hsg : (numOf c t).sign = 1:=Int.sign_eq_one_of_pos h5
            have H5:=Lib.hid h5
            have HSG:=Lib.hid hsg
            clear h5 hsg hn
            go_wp2_with fail
            refine (WSign_any c t HT.out).mono ?_
            rintro e w5 ⟨k,rfl,hk,hb⟩
            obtain rfl : k = 1:=hk.elim (fun h=>h.2.trans HSG.out) (fun h=>absurd H2.out h.1)
            clear hk
            have HX5:=Lib.hid (HX4.out.on hb)
            have HW5:=Lib.hid (HW4.out.trans (hb.mono HW4.out.size))
            clear hb hc0 hc1 hc2 hc3
            have hc0:=HX5.out.cell 0 (.bool b) rfl
            have hc1:=HX5.out.cell 1 (.string s) rfl
            have hc2:=HX5.out.cell 2 (.bool c) rfl
            have hc3:=HX5.out.cell 3 (.string t) rfl
            obtain ⟨q0,hq0⟩ : ∃ q0,q0 = Rat.divInt (numOf b s) (numOf c t):=⟨_,rfl⟩
            have H0 : Hid (numOf c t ≠ 0):=by have:=H5.out; unfold Hid; omega
            have hz1 : (mag (numOf b s).natAbs).size ≤ 16384:=by rw [(numOf_ok H1.out).2.1]; exact Nat.le_trans H3.out (by decide)
            have hz2 : (mag (numOf c t).natAbs).size ≤ 16384:=by rw [(numOf_ok H2.out).2.1]; exact Nat.le_trans H4.out (by decide)
            have KQ : Hid (OkR q0):=by rw [hq0]; exact okR_divInt H0.out hz1 hz2
            have K1 : Hid (Okn (numOf b s)):=okn_size hz1
            have K2 : Hid (Okn (numOf c t)):=okn_size hz2
            have HQ0:=Lib.hid hq0
            clear hz1 hz2 hq0 hc0 hc1 hc2 hc3
            go_wp2
            refine wp_region_acts 5 (fun w'=>Below w0.heap.size w0 w' ∧ BoxAt w' w0.heap.size #[.bool b,.string s,.bool c,.string t] 25) (fun w w'=>Below w.heap.size w w') (fun i w v=>match i with
                | 0=>v = .agg #[.bool b,.string s,.bool c,.string t]
                | 1=>∃ g,v = .pointer (some ⟨g,0,none⟩) ∧ RatAt w g 0 q0
                | 2=>∃ p s' t',v = .agg #[.bool p,.string s',.bool false,.string t'] ∧ Hid (p = decide (q0.num < 0)) ∧ Hid (s' = mag q0.num.natAbs) ∧ Hid (t' = mag q0.den)
                | 3=>v = .agg #[.bool b,.string s,.bool c,.string t]
                | _=>∃ r,v = .bool r ∧ Hid (r = true ↔ IsFrac (.agg #[.bool b,.string s,.bool c,.string t]))) (by kernel_rfl) (by kernel_rfl) (by kernel_rfl) ⟨HW5.out.drew,HX5.out⟩ (fun _ _=>(Below.refl _ _)) ?_ ⟨?_,?_,?_,?_,?_,trivial⟩ ?_
            · intro i w1 w2 v hC hC2 hE hV
              match i with
              | 0=>exact hV
              | 1=>obtain ⟨g,e,h⟩:=hV; exact ⟨g,e,h.on hE⟩
              | 2=>exact hV
              | 3=>exact hV
              | _ + 4=>exact hV
            · intro a' w' hag hC hd K hK
              have e1 : a'.tmps.getD 1 undef = .pointer (some ⟨w0.heap.size,0,none⟩):=hag 1 rfl
              have hc0:=hC.2.cell 0 (.bool b) rfl
              have hc1:=hC.2.cell 1 (.string s) rfl
              have hc2:=hC.2.cell 2 (.bool c) rfl
              have hc3:=hC.2.cell 3 (.string t) rfl
              have HK:=Lib.hid (hK (.agg #[.bool b,.string s,.bool c,.string t]) _ hC (Below.refl _ _) rfl)
              clear hK hC
              go_step
              exact HK.out
            · intro a' w' hag hC hd K hK
              have e31 : a'.tmps.getD 31 undef = .agg #[.bool b,.string s,.bool c,.string t]:=hd.1
              go_step
              refine (rat_any b c s t (Nat.le_trans H3.out (by decide)) (Nat.le_trans H4.out (by decide)) H0.out K1.out K2.out).mono ?_
              rintro e w2 ⟨g,rfl,hg,h1,h2⟩
              exact hK _ _ ⟨hC.1.trans (h2.mono hC.1.size),hC.2.on h2⟩ h2 ⟨_,rfl,by rw [HQ0.out]; exact h1⟩
            · intro a' w' hag hC hd K hK
              obtain ⟨g32,e32,h32⟩:=hd.1
              have e32 : a'.tmps.getD 32 undef = .pointer (some ⟨g32,0,none⟩):=e32
              go_step
              refine (told_any h32 KQ.out).mono ?_
              rintro e w2 ⟨p,s',t',rfl,h1,h2,h3,hb⟩
              exact hK _ _ ⟨hC.1.trans (hb.mono hC.1.size),hC.2.on hb⟩ hb ⟨p,s',t',rfl,h1,h2,h3⟩
            · intro a' w' hag hC hd K hK
              have e1 : a'.tmps.getD 1 undef = .pointer (some ⟨w0.heap.size,0,none⟩):=hag 1 rfl
              have hc0:=hC.2.cell 0 (.bool b) rfl
              have hc1:=hC.2.cell 1 (.string s) rfl
              have hc2:=hC.2.cell 2 (.bool c) rfl
              have hc3:=hC.2.cell 3 (.string t) rfl
              have HK:=Lib.hid (hK (.agg #[.bool b,.string s,.bool c,.string t]) _ hC (Below.refl _ _) rfl)
              clear hK hC
              go_step
              exact HK.out
            · intro a' w' hag hC hd K hK
              obtain ⟨p33,s33,t33,e33,hp33,hs33,ht33⟩:=hd.1
              have e33 : a'.tmps.getD 33 undef = .agg #[.bool p33,.string s33,.bool false,.string t33]:=e33
              have e34 : a'.tmps.getD 34 undef = .agg #[.bool b,.string s,.bool c,.string t]:=hd.2.1
              have key:=may_key HQ0.out hp33.out hs33.out ht33.out H3.out H4.out
              have HK:=Lib.hid (hK _ _ hC (Below.refl _ _) ⟨_,rfl,key⟩)
              clear hK hC key
              go_step
              rw [eqtree]
              generalize ((p33 == b && s33.toList == s.toList) && (false == c && t33.toList == t.toList)) = r at HK ⊢
              cases r
              · exact HK.out
              · exact HK.out
            · intro u w' hC hall
              obtain ⟨u0,u1,u2,u3,u4,_⟩:=hall
              have u0 : u 0 = .agg #[.bool b,.string s,.bool c,.string t]:=u0
              have u3 : u 3 = .agg #[.bool b,.string s,.bool c,.string t]:=u3
              obtain ⟨r35,eu4,h35⟩:=u4
              have u4 : u 4 = .bool r35:=eu4
              simp only [fillR,List.take_succ_cons,List.take_zero,Act.put,List.setIfInBounds_toArray,List.set_cons_succ,List.set_cons_zero,Nat.zero_add,Nat.reduceAdd,u0,u3,u4]
              clear u0 u3 u4
              have HC:=Lib.hid hC.1
              clear hC
              go_wp2
              go_ret
              exact ⟨_,rfl,h35.out,HC.out⟩
          · obtain ⟨k5,hk5⟩ : ∃ k5,k5 = (numOf c t).sign:=⟨_,rfl⟩
            have hk0 : k5 ≤ 0:=by rw [hk5]; exact Int.sign_nonpos_iff.2 (by omega)
            have HK5:=Lib.hid hk5
            have H5:=Lib.hid h5
            clear hk5 h5 hn
            go_wp2_with fail
            refine (WSign_any c t HT.out).mono ?_
            rintro e w5 ⟨k,rfl,hk,hb⟩
            obtain rfl : k = k5:=hk.elim (fun h=>h.2.trans HK5.out.symm) (fun h=>absurd H2.out h.1)
            clear hk
            have HX5:=Lib.hid (HX4.out.on hb)
            have HW5:=Lib.hid (HW4.out.trans (hb.mono HW4.out.size))
            clear hb hc0 hc1 hc2 hc3
            have hc0:=HX5.out.cell 0 (.bool b) rfl
            have hc1:=HX5.out.cell 1 (.string s) rfl
            have hc2:=HX5.out.cell 2 (.bool c) rfl
            have hc3:=HX5.out.cell 3 (.string t) rfl
            go_wp2
            go_ret
            exact ⟨false,rfl,⟨fun h=>Bool.noConfusion h,fun h=>absurd (isFrac_parts h).2.2.2.2.1 (Int.not_lt.2 H5.out)⟩,HW5.out⟩
        · have H4:=Lib.hid h4
          go_wp2_with fail
          refine (shortF_any c t false (by simpa using h4)).mono ?_
          rintro e w4 ⟨rfl,hb⟩
          have HX4:=Lib.hid (HX3.out.on hb)
          have HW4:=Lib.hid (HW3.out.trans (hb.mono HW3.out.size))
          clear hb hc0 hc1 hc2 hc3
          have hc0:=HX4.out.cell 0 (.bool b) rfl
          have hc1:=HX4.out.cell 1 (.string s) rfl
          have hc2:=HX4.out.cell 2 (.bool c) rfl
          have hc3:=HX4.out.cell 3 (.string t) rfl
          clear h4
          go_wp2
          go_ret
          exact ⟨false,rfl,⟨fun h=>Bool.noConfusion h,fun h=>absurd (isFrac_parts h).2.2.2.1 H4.out⟩,HW4.out⟩
      · have H3:=Lib.hid h3
        go_wp2_with fail
        refine (shortF_any b s false (by simpa using h3)).mono ?_
        rintro e w3 ⟨rfl,hb⟩
        have HX3:=Lib.hid (HX2.out.on hb)
        have HW3:=Lib.hid (HW2.out.trans (hb.mono HW2.out.size))
        clear hb hc0 hc1 hc2 hc3
        have hc0:=HX3.out.cell 0 (.bool b) rfl
        have hc1:=HX3.out.cell 1 (.string s) rfl
        have hc2:=HX3.out.cell 2 (.bool c) rfl
        have hc3:=HX3.out.cell 3 (.string t) rfl
        clear h3
        go_wp2
        go_ret
        exact ⟨false,rfl,⟨fun h=>Bool.noConfusion h,fun h=>absurd (isFrac_parts h).2.2.1 H3.out⟩,HW3.out⟩
    · have H2:=Lib.hid h2
      clear h2
      go_wp2_with fail
      refine (Check_any c t HT.out).mono ?_
      rintro e w2 ⟨k,rfl,hk,hb⟩
      obtain rfl : k = 2:=hk.elim (fun h=>absurd h.2 H2.out) (fun h=>h.1)
      clear hk
      have HX2:=Lib.hid (HX1.out.on hb)
      have HW2:=Lib.hid (HW1.out.trans (hb.mono HW1.out.size))
      clear hb hc0 hc1 hc2 hc3
      have hc0:=HX2.out.cell 0 (.bool b) rfl
      have hc1:=HX2.out.cell 1 (.string s) rfl
      have hc2:=HX2.out.cell 2 (.bool c) rfl
      have hc3:=HX2.out.cell 3 (.string t) rfl
      go_wp2
      go_ret
      exact ⟨false,rfl,⟨fun h=>Bool.noConfusion h,fun h=>absurd (isFrac_parts h).2.1 H2.out⟩,HW2.out⟩
  · have H1:=Lib.hid h1
    clear h1
    go_wp2_with fail
    refine (Check_any b s HS.out).mono ?_
    rintro e w1 ⟨k,rfl,hk,hb⟩
    obtain rfl : k = 2:=hk.elim (fun h=>absurd h.2 H1.out) (fun h=>h.1)
    clear hk
    have HX1:=Lib.hid (HX0.out.on hb)
    have HW1:=Lib.hid (HW0.out.trans (hb.mono HW0.out.size))
    clear hb hc0 hc1 hc2 hc3
    have hc0:=HX1.out.cell 0 (.bool b) rfl
    have hc1:=HX1.out.cell 1 (.string s) rfl
    have hc2:=HX1.out.cell 2 (.bool c) rfl
    have hc3:=HX1.out.cell 3 (.string t) rfl
    go_wp2
    go_ret
    exact ⟨false,rfl,⟨fun h=>Bool.noConfusion h,fun h=>absurd (isFrac_parts h).1 H1.out⟩,HW1.out⟩
end Go.Proofs.YtpccljaooghafaaGreat
end
section
namespace Go.Proofs.YtpccljaooghafaaGreat
open Go.RowKit
def sz (n : Int) : Nat:=(mag n.natAbs).size
theorem sz_le {n : Int} {k : Nat} : sz n ≤ k ↔ n.natAbs < 256 ^ k:=mag_size_le
theorem sz_mul {a b : Int} {i j : Nat} (h : sz a ≤ i) (k : sz b ≤ j) : sz (a * b) ≤ i + j:=by
  rw [sz_le] at *
  rw [Int.natAbs_mul,Nat.pow_add]
  exact Nat.mul_lt_mul'' h k
theorem sz_add {a b : Int} {i : Nat} (h : sz a ≤ i) (k : sz b ≤ i) : sz (a + b) ≤ i + 1:=by
  rw [sz_le] at *
  rw [Nat.pow_succ]
  have:=Int.natAbs_add_le a b
  omega
theorem sz_neg (a : Int) : sz (-a) = sz a:=by
  unfold sz; rw [Int.natAbs_neg]
theorem sz_sub {a b : Int} {i : Nat} (h : sz a ≤ i) (k : sz b ≤ i) : sz (a - b) ≤ i + 1:=by
  rw [Int.sub_eq_add_neg]
  exact sz_add h (by rw [sz_neg]; exact k)
theorem sz_nat (d : Nat) : sz (d : Int) = (mag d).size:=by unfold sz; rw [Int.natAbs_natCast]
def Sz (k : Nat) (q : Rat) : Prop:=sz q.num ≤ k ∧ sz (q.den : Int) ≤ k
theorem Sz.mono {i k : Nat} {q : Rat} (h : Sz i q) (hk : i ≤ k) : Sz k q:=⟨Nat.le_trans h.1 hk,Nat.le_trans h.2 hk⟩
theorem Sz.fit {k : Nat} {q : Rat} (h : Sz k q) (hk : k ≤ 1024) : Fit q:=⟨Nat.le_trans h.1 hk,by have:=h.2; rw [sz_nat] at this; omega⟩
theorem Sz.neg {k : Nat} {x : Rat} (h : Sz k x) : Sz k (-x):=⟨by rw [show (-x).num = -x.num from rfl,sz_neg]; exact h.1,h.2⟩
theorem Fit.sz {q : Rat} (h : Fit q) : Sz 1024 q:=⟨h.1,by rw [sz_nat]; exact h.2⟩
theorem sz_divInt {n d : Int} {k : Nat} (hd : d ≠ 0) (h1 : sz n ≤ k) (h2 : sz d ≤ k) : Sz k (Rat.divInt n d) :=
  ⟨mag_mono (num_le n d hd) h1,by rw [sz_nat]; exact mag_mono (den_le n d hd) h2⟩
theorem Sz.add {i j : Nat} {x y : Rat} (h : Sz i x) (k : Sz j y) : Sz (i + j + 1) (x + y):=by
  rw [← divInt_Add]
  refine sz_divInt (Int.mul_ne_zero (den_ne x) (den_ne y)) (sz_add (sz_mul h.1 k.2) ?_) (Nat.le_succ_of_le (sz_mul h.2 k.2))
  rw [Nat.add_comm]
  exact sz_mul k.1 h.2
theorem Sz.sub {i j : Nat} {x y : Rat} (h : Sz i x) (k : Sz j y) : Sz (i + j + 1) (x - y):=by
  rw [← divInt_Sub]
  refine sz_divInt (Int.mul_ne_zero (den_ne x) (den_ne y)) (sz_sub (sz_mul h.1 k.2) ?_) (Nat.le_succ_of_le (sz_mul h.2 k.2))
  rw [Nat.add_comm]
  exact sz_mul k.1 h.2
theorem Sz.okR {k : Nat} {q : Rat} (h : Sz k q) (hk : k ≤ 16384) : OkR q:=by
  have k1:=wl_size (Nat.le_trans h.1 hk)
  have k2:=wl_size (Nat.le_trans h.2 hk)
  refine ⟨?_,?_⟩
  · show (dig _).length ≤ _
    omega
  · show (dig ((q.den : Int)).natAbs).length ≤ _
    omega
end Go.Proofs.YtpccljaooghafaaGreat
end
section
namespace Go.Proofs.YtpccljaooghafaaGreat
open Go.RowKit
theorem Sz.okR2 {k : Nat} {q : Rat} (h : Sz k q) (hk : k ≤ 4000000000) : OkR q:=by
  have k1:=wl_size (Nat.le_trans h.1 hk)
  have k2:=wl_size (Nat.le_trans h.2 hk)
  refine ⟨?_,?_⟩
  · show (dig _).length ≤ _
    omega
  · show (dig ((q.den : Int)).natAbs).length ≤ _
    omega
structure GQ where
  re : Rat
  im : Rat
def gnorm (z : GQ) : Rat:=z.re * z.re + z.im * z.im
def gscale (z : GQ) (x : Rat) : GQ:=⟨z.re * x,z.im * x⟩
def gint (n m : Int) : GQ:=⟨Rat.divInt n 1,Rat.divInt m 1⟩
def GSz (k : Nat) (z : GQ) : Prop:=Sz k z.re ∧ Sz k z.im
theorem sz_small {n : Int} (h : n.natAbs < 256) : sz n ≤ 1:=by rw [sz_le]; exact h
theorem Sz.small {n : Int} (h : n.natAbs < 256) : Sz 1 (Rat.divInt n 1):=sz_divInt (by decide) (sz_small h) (sz_small (by decide))
end Go.Proofs.YtpccljaooghafaaGreat
end
