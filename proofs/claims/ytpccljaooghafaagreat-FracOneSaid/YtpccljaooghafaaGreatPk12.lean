/- IntG, GsC, Wof, RegQ, Arith, Ops, Near, Nst, Txt, Yd, G1, G2, LawD. -/
import Derived.Test.YtpccljaooghafaaGreatPk11
set_option linter.unnecessarySimpa false
set_option linter.unusedVariables false
set_option linter.unusedSimpArgs false
section
namespace Go.Proofs.YtpccljaooghafaaGreat
open Go.RowKit
set_option maxRecDepth 100000 in
theorem Lsh_any {w : World} {b o c p n k : Nat} (hz : Slot w b o 2) (hx : IntAt w c p (n : Int)) (hn : (dig n).length ≤ 8589934592) (hk : k ≤ 137438953472) :
    Calls Tryz.prog 411 #[.pointer (some ⟨b,o,none⟩),.pointer (some ⟨c,p,none⟩),.int .u64 (k : Int)] w fun e w'=>e = .returned (.pointer (some ⟨b,o,none⟩)) ∧ IntAt w' b o ((n * 2 ^ k : Nat) : Int) ∧ Touch w w' b o 2:=by
  obtain ⟨A,m,cap,hc0,hc1,hv,hlt⟩:=hx.open_
  rw [show decide ((n : Int) < 0) = false by simp] at hc0
  rw [Int.natAbs_natCast] at hv
  have hm:=hv.len.1
  rw [← hm] at hn
  have HZ:=Lib.hid hz
  have HV:=Lib.hid hv
  have HC0:=Lib.hid hc0
  have HC1:=Lib.hid hc1
  clear hx hz hv hc0 hc1 hm
  go_enter Tryz.func411,Tryz.ntmps411
  go_wp2
  refine wp_region_acts 12 (fun w'=>Below w.heap.size w w') (fun w w'=>Below w.heap.size w w') (fun i w v=>match i with
      | 0=>v = .pointer (some ⟨b,o,none⟩)
      | 1=>v = .pointer (some ⟨c,p,none⟩)
      | 2=>v = .pointer (some ⟨c,p,none⟩)
      | 3=>v = .pointer (some ⟨c,p,none⟩)
      | 4=>v = .bool false
      | 5=>v = .pointer (some ⟨c,p,none⟩)
      | 6=>v = .pointer (some ⟨c,p,none⟩)
      | 7=>v = .pointer (some ⟨c,p + 1,none⟩)
      | 8=>v = .slice A m cap
      | 9=>v = .int .u64 (k : Int)
      | 10=>v = .int .i64 (k : Int)
      | _=>∃ A' m' c',v = .slice A' m' c' ∧ Words w (.slice A' m' c') (dig (n * 2 ^ k))) (by kernel_rfl) (by kernel_rfl) (by kernel_rfl) ((Below.refl _ _).drew) (fun _ _=>Below.refl _ _) ?_ ⟨?_,?_,?_,?_,?_,?_,?_,?_,?_,?_,?_,?_,trivial⟩ ?_
  · intro i w1 w2 v hC hC2 hE hV
    match i with
    | 0=>exact hV
    | 1=>exact hV
    | 2=>exact hV
    | 3=>exact hV
    | 4=>exact hV
    | 5=>exact hV
    | 6=>exact hV
    | 7=>exact hV
    | 8=>exact hV
    | 9=>exact hV
    | 10=>exact hV
    | _ + 11=>obtain ⟨A',m',c',e,h⟩:=hV; exact ⟨A',m',c',e,h.below hE⟩
  · intro a' w' hag hC hd K hK
    have e0 : a'.tmps.getD 0 undef = .pointer (some ⟨b,o,none⟩):=hag 0 rfl
    go_step
    exact hK _ _ hC (Below.refl _ _) rfl
  · intro a' w' hag hC hd K hK
    have e1 : a'.tmps.getD 1 undef = .pointer (some ⟨c,p,none⟩):=hag 1 rfl
    go_step
    exact hK _ _ hC (Below.refl _ _) rfl
  · intro a' w' hag hC hd K hK
    have e8 : a'.tmps.getD 8 undef = .pointer (some ⟨c,p,none⟩):=hd.1
    go_step
    exact hK _ _ hC (Below.refl _ _) rfl
  · intro a' w' hag hC hd K hK
    have e9 : a'.tmps.getD 9 undef = .pointer (some ⟨c,p,none⟩):=hd.1
    go_step
    exact hK _ _ hC (Below.refl _ _) rfl
  · intro a' w' hag hC hd K hK
    have e10 : a'.tmps.getD 10 undef = .pointer (some ⟨c,p,none⟩):=hd.1
    have hcell : w'.cell? ⟨c,p,none⟩ = some (.bool false):=by rw [hC.cell (p:=⟨c,p,none⟩) hlt]; exact HC0.out
    have HC:=Lib.hid hC
    clear hC
    go_step
    exact hK _ _ HC.out (Below.refl _ _) rfl
  · intro a' w' hag hC hd K hK
    have e1 : a'.tmps.getD 1 undef = .pointer (some ⟨c,p,none⟩):=hag 1 rfl
    go_step
    exact hK _ _ hC (Below.refl _ _) rfl
  · intro a' w' hag hC hd K hK
    have e12 : a'.tmps.getD 12 undef = .pointer (some ⟨c,p,none⟩):=hd.1
    go_step
    exact hK _ _ hC (Below.refl _ _) rfl
  · intro a' w' hag hC hd K hK
    have e13 : a'.tmps.getD 13 undef = .pointer (some ⟨c,p,none⟩):=hd.1
    go_step
    exact hK _ _ hC (Below.refl _ _) rfl
  · intro a' w' hag hC hd K hK
    have e14 : a'.tmps.getD 14 undef = .pointer (some ⟨c,p + 1,none⟩):=hd.1
    have hcell : w'.cell? ⟨c,p + 1,none⟩ = some (.slice A m cap):=by rw [hC.cell (p:=⟨c,p + 1,none⟩) hlt]; exact HC1.out
    have HC:=Lib.hid hC
    clear hC
    go_step
    exact hK _ _ HC.out (Below.refl _ _) rfl
  · intro a' w' hag hC hd K hK
    have e2 : a'.tmps.getD 2 undef = .int .u64 (k : Int):=hag 2 rfl
    go_step
    exact hK _ _ hC (Below.refl _ _) rfl
  · intro a' w' hag hC hd K hK
    have e16 : a'.tmps.getD 16 undef = .int .u64 (k : Int):=hd.1
    go_step
    exact hK _ _ hC (Below.refl _ _) rfl
  · intro a' w' hag hC hd K hK
    have e15 : a'.tmps.getD 15 undef = .slice A m cap:=hd.1
    have e17 : a'.tmps.getD 17 undef = .int .i64 (k : Int):=hd.2.1
    go_step
    refine (left_any (HV.out.below hC) hn k hk).mono ?_
    rintro e w2 ⟨v,rfl,h1,h2⟩
    obtain ⟨A',m',c',rfl⟩:=h1.form
    rw [val_dig] at h1
    exact hK _ _ (hC.trans (h2.mono hC.size)) h2 ⟨_,_,_,rfl,h1⟩
  · intro u w' hC hall
    obtain ⟨u0,u1,u2,u3,u4,u5,u6,u7,u8,u9,u10,u11,_⟩:=hall
    have u0 : u 0 = .pointer (some ⟨b,o,none⟩):=u0
    have u1 : u 1 = .pointer (some ⟨c,p,none⟩):=u1
    have u2 : u 2 = .pointer (some ⟨c,p,none⟩):=u2
    have u3 : u 3 = .pointer (some ⟨c,p,none⟩):=u3
    have u4 : u 4 = .bool false:=u4
    have u5 : u 5 = .pointer (some ⟨c,p,none⟩):=u5
    have u6 : u 6 = .pointer (some ⟨c,p,none⟩):=u6
    have u7 : u 7 = .pointer (some ⟨c,p + 1,none⟩):=u7
    have u8 : u 8 = .slice A m cap:=u8
    have u9 : u 9 = .int .u64 (k : Int):=u9
    have u10 : u 10 = .int .i64 (k : Int):=u10
    obtain ⟨A',m',c',eu11,hw'⟩:=u11
    have u11 : u 11 = .slice A' m' c':=eu11
    simp only [fillR,List.take_succ_cons,List.take_zero,Act.put,List.setIfInBounds_toArray,List.set_cons_succ,List.set_cons_zero,Nat.zero_add,Nat.reduceAdd,u0,u1,u2,u3,u4,u5,u6,u7,u8,u9,u10,u11]
    clear u0 u1 u2 u3 u4 u5 u6 u7 u8 u9 u10 u11
    have HW:=Lib.hid hw'
    have HC:=Lib.hid hC
    have hsl:=HZ.out.on hC
    clear hw' hC
    go_wp2_with (go_at_call 384; refine (is_any false hsl HW.out).mono ?_; rintro e w2 ⟨rfl,h1,h2⟩)
    go_ret
    rw [val_dig] at h1
    exact ⟨rfl,h1,(Touch.of_below HC.out _ _ _).trans h2⟩
set_option maxRecDepth 100000 in
theorem Rsh_any {w : World} {b o c p n k : Nat} (hz : Slot w b o 2) (hx : IntAt w c p (n : Int)) (hk : k ≤ 1099511627776) :
    Calls Tryz.prog 412 #[.pointer (some ⟨b,o,none⟩),.pointer (some ⟨c,p,none⟩),.int .u64 (k : Int)] w fun e w'=>e = .returned (.pointer (some ⟨b,o,none⟩)) ∧ IntAt w' b o ((n / 2 ^ k : Nat) : Int) ∧ Touch w w' b o 2:=by
  obtain ⟨A,m,cap,hc0,hc1,hv,hlt⟩:=hx.open_
  rw [show decide ((n : Int) < 0) = false by simp] at hc0
  rw [Int.natAbs_natCast] at hv
  have hm : m ≤ 17179869184:=by have:=hv.len.1; have:=hv.2.1; omega
  have HZ:=Lib.hid hz
  have HV:=Lib.hid hv
  have HC0:=Lib.hid hc0
  clear hx hz hv
  go_enter Tryz.func412,Tryz.ntmps412
  go_wp2_with fail
  refine (right_any HV.out hm k hk).mono ?_
  rintro e w1 ⟨v,rfl,h1,h2⟩
  obtain ⟨A1,m1,c1,rfl⟩:=h1.form
  rw [val_dig] at h1
  have hd0 : w1.cell? ⟨c,p,none⟩ = some (.bool false):=by rw [h2.cell (p:=⟨c,p,none⟩) hlt]; exact HC0.out
  have hlt1 : c < w1.heap.size:=Nat.lt_of_lt_of_le hlt h2.size
  have HD0:=Lib.hid hd0
  have HW:=Lib.hid h1
  have HB:=Lib.hid h2
  clear h1 h2 hc0 hc1 hd0
  go_wp2
  refine wp_region_acts 16 (fun w'=>Below w1.heap.size w1 w') (fun w w'=>Below w.heap.size w w') (fun i w v=>match i with
      | 0=>v = .pointer (some ⟨c,p,none⟩)
      | 1=>v = .pointer (some ⟨c,p,none⟩)
      | 2=>v = .pointer (some ⟨c,p,none⟩)
      | 3=>v = .bool false
      | 4=>v = .bool false
      | 5=>v = undef
      | 6=>v = undef
      | 7=>v = undef
      | 8=>v = undef
      | 9=>v = undef
      | 10=>v = undef
      | 11=>v = undef
      | 12=>v = undef
      | 13=>v = undef
      | 14=>v = undef
      | _=>v = .bool false) (by kernel_rfl) (by kernel_rfl) (by kernel_rfl) ((Below.refl _ _).drew) (fun _ _=>Below.refl _ _) ?_ ⟨?_,?_,?_,?_,?_,?_,?_,?_,?_,?_,?_,?_,?_,?_,?_,?_,trivial⟩ ?_
  · intro i w1 w2 v hC hC2 hE hV
    match i with
    | 0=>exact hV
    | 1=>exact hV
    | 2=>exact hV
    | 3=>exact hV
    | 4=>exact hV
    | 5=>exact hV
    | 6=>exact hV
    | 7=>exact hV
    | 8=>exact hV
    | 9=>exact hV
    | 10=>exact hV
    | 11=>exact hV
    | 12=>exact hV
    | 13=>exact hV
    | 14=>exact hV
    | _ + 15=>exact hV
  · intro a' w' hag hC hd K hK
    have e1 : a'.tmps.getD 1 undef = .pointer (some ⟨c,p,none⟩):=hag 1 rfl
    go_step
    exact hK _ _ hC (Below.refl _ _) rfl
  · intro a' w' hag hC hd K hK
    have e15 : a'.tmps.getD 15 undef = .pointer (some ⟨c,p,none⟩):=hd.1
    go_step
    exact hK _ _ hC (Below.refl _ _) rfl
  · intro a' w' hag hC hd K hK
    have e16 : a'.tmps.getD 16 undef = .pointer (some ⟨c,p,none⟩):=hd.1
    go_step
    exact hK _ _ hC (Below.refl _ _) rfl
  · intro a' w' hag hC hd K hK
    have e17 : a'.tmps.getD 17 undef = .pointer (some ⟨c,p,none⟩):=hd.1
    have hcell : w'.cell? ⟨c,p,none⟩ = some (.bool false):=by rw [hC.cell (p:=⟨c,p,none⟩) hlt1]; exact HD0.out
    have HC:=Lib.hid hC
    clear hC
    go_step
    exact hK _ _ HC.out (Below.refl _ _) rfl
  · intro a' w' hag hC hd K hK
    have e18 : a'.tmps.getD 18 undef = .bool false:=hd.1
    go_step
    exact hK _ _ hC (Below.refl _ _) rfl
  · intro a' w' hag hC hd
    exact ⟨fun hw=>Bool.noConfusion (hw.symm.trans (unwanted_of (j:=4) (d:=19) (b':=false) rfl rfl rfl hd.1 (by decide))),fun _=>rfl⟩
  · intro a' w' hag hC hd
    exact ⟨fun hw=>Bool.noConfusion (hw.symm.trans (unwanted_of (j:=4) (d:=19) (b':=false) rfl rfl rfl hd.1 (by decide))),fun _=>rfl⟩
  · intro a' w' hag hC hd
    exact ⟨fun hw=>Bool.noConfusion (hw.symm.trans (unwanted_of (j:=4) (d:=19) (b':=false) rfl rfl rfl hd.2.1 (by decide))),fun _=>rfl⟩
  · intro a' w' hag hC hd
    exact ⟨fun hw=>Bool.noConfusion (hw.symm.trans (unwanted_of (j:=4) (d:=19) (b':=false) rfl rfl rfl hd.2.2.1 (by decide))),fun _=>rfl⟩
  · intro a' w' hag hC hd
    exact ⟨fun hw=>Bool.noConfusion (hw.symm.trans (unwanted_of (j:=4) (d:=19) (b':=false) rfl rfl rfl hd.1 (by decide))),fun _=>rfl⟩
  · intro a' w' hag hC hd
    exact ⟨fun hw=>Bool.noConfusion (hw.symm.trans (unwanted_of (j:=4) (d:=19) (b':=false) rfl rfl rfl hd.2.1 (by decide))),fun _=>rfl⟩
  · intro a' w' hag hC hd
    exact ⟨fun hw=>Bool.noConfusion (hw.symm.trans (unwanted_of (j:=4) (d:=19) (b':=false) rfl rfl rfl hd.2.1 (by decide))),fun _=>rfl⟩
  · intro a' w' hag hC hd
    exact ⟨fun hw=>Bool.noConfusion (hw.symm.trans (unwanted_of (j:=4) (d:=19) (b':=false) rfl rfl rfl hd.2.1 (by decide))),fun _=>rfl⟩
  · intro a' w' hag hC hd
    exact ⟨fun hw=>Bool.noConfusion (hw.symm.trans (unwanted_of (j:=4) (d:=19) (b':=false) rfl rfl rfl hd.2.2.2.1 (by decide))),fun _=>rfl⟩
  · intro a' w' hag hC hd
    exact ⟨fun hw=>Bool.noConfusion (hw.symm.trans (unwanted_of (j:=4) (d:=19) (b':=false) rfl rfl rfl hd.2.1 (by decide))),fun _=>rfl⟩
  · intro a' w' hag hC hd K hK
    have e19 : a'.tmps.getD 19 undef = .bool false:=hd.1
    have e29 : a'.tmps.getD 29 undef = undef:=hd.2.1
    go_step
    exact hK _ _ hC (Below.refl _ _) rfl
  · intro u w' hC hall
    obtain ⟨u0,u1,u2,u3,u4,u5,u6,u7,u8,u9,u10,u11,u12,u13,u14,u15,_⟩:=hall
    have u0 : u 0 = .pointer (some ⟨c,p,none⟩):=u0
    have u1 : u 1 = .pointer (some ⟨c,p,none⟩):=u1
    have u2 : u 2 = .pointer (some ⟨c,p,none⟩):=u2
    have u3 : u 3 = .bool false:=u3
    have u4 : u 4 = .bool false:=u4
    have u5 : u 5 = undef:=u5
    have u6 : u 6 = undef:=u6
    have u7 : u 7 = undef:=u7
    have u8 : u 8 = undef:=u8
    have u9 : u 9 = undef:=u9
    have u10 : u 10 = undef:=u10
    have u11 : u 11 = undef:=u11
    have u12 : u 12 = undef:=u12
    have u13 : u 13 = undef:=u13
    have u14 : u 14 = undef:=u14
    have u15 : u 15 = .bool false:=u15
    simp only [fillR,List.take_succ_cons,List.take_zero,Act.put,List.setIfInBounds_toArray,List.set_cons_succ,List.set_cons_zero,Nat.zero_add,Nat.reduceAdd,u0,u1,u2,u3,u4,u5,u6,u7,u8,u9,u10,u11,u12,u13,u14,u15]
    clear u0 u1 u2 u3 u4 u5 u6 u7 u8 u9 u10 u11 u12 u13 u14 u15
    have HC:=Lib.hid hC
    have hc1 : w'.cell? ⟨c,p,none⟩ = some (.bool false):=by rw [hC.cell (p:=⟨c,p,none⟩) hlt1]; exact HD0.out
    have hsl:=(HZ.out.on HB.out).on hC
    have hw2:=HW.out.below hC
    clear hC
    go_wp2_with (go_at_call 384; refine (is_any false hsl hw2).mono ?_; rintro e w2 ⟨rfl,h1,h2⟩)
    go_ret
    rw [val_dig] at h1
    exact ⟨rfl,h1,((Touch.of_below HB.out _ _ _).trans (Touch.of_below HC.out _ _ _)).trans h2⟩
theorem newton_up (n R : Nat) (hR : 0 < R) : n < ((n / R + R) / 2 + 1) * ((n / R + R) / 2 + 1):=by
  have h1 : n < R * (n / R + 1):=by have:=Nat.lt_mul_div_succ n hR; simpa [Nat.mul_add] using this
  generalize n / R = q at h1
  generalize hs : (q + R) / 2 = s
  have h2 : q + 1 + R ≤ 2 * (s + 1):=by omega
  refine Nat.lt_of_lt_of_le h1 ?_
  rcases Nat.le_total R (s + 1) with h | h
  · obtain ⟨d,hd⟩:=Nat.exists_eq_add_of_le h
    rw [hd] at h2 ⊢
    have h3 : q + 1 ≤ R + 2 * d:=by omega
    calc R * (q + 1) ≤ R * (R + 2 * d):=Nat.mul_le_mul_left _ h3
      _ ≤ (R + d) * (R + d):=by rw [Nat.mul_add,Nat.add_mul,Nat.mul_add,Nat.mul_add,Nat.mul_comm d R,Nat.mul_left_comm,Nat.two_mul]; omega
  · obtain ⟨d,hd⟩:=Nat.exists_eq_add_of_le h
    have h3 : q + 1 + 2 * d ≤ R:=by omega
    rw [hd] at h2 ⊢
    have h4 : q + 1 + d ≤ s + 1:=by omega
    calc (s + 1 + d) * (q + 1) = (s + 1) * (q + 1) + d * (q + 1):=by rw [Nat.add_mul]
      _ ≤ (s + 1) * (q + 1) + d * (s + 1):=Nat.add_le_add_left (Nat.mul_le_mul_left _ (by omega)) _
      _ = (s + 1) * (q + 1 + d):=by rw [Nat.mul_add (s + 1) (q + 1) d,Nat.mul_comm d]
      _ ≤ (s + 1) * (s + 1):=Nat.mul_le_mul_left _ h4
theorem newton_end (n R : Nat) (hR : 0 < R) (h : R ≤ (n / R + R) / 2) : R * R ≤ n:=by
  have h1 : R ≤ n / R:=by omega
  exact Nat.le_trans (Nat.mul_le_mul_left _ h1) (Nat.mul_div_le n R)
theorem newton_pos (n R : Nat) (hn : 0 < n) (hR : 0 < R) (h : (n / R + R) / 2 < R) : 0 < (n / R + R) / 2:=by
  rcases Nat.lt_or_ge R 2 with h2 | h2
  · obtain rfl : R = 1:=by omega
    rw [Nat.div_one] at h ⊢
    omega
  · generalize n / R = q at h ⊢
    omega
theorem okn_nat {m k : Nat} (h : m ≤ k) (hk : (dig k).length ≤ 4294967296) : Okn (m : Int):=by
  unfold Okn
  rw [Int.natAbs_natCast]
  exact Nat.le_trans (dig_len_mono _ _ h) hk
theorem cmpI_lt {a b : Nat} (h : a < b) : cmpI (a : Int) (b : Int) = -1:=by
  unfold cmpI
  rw [if_pos (by omega)]
theorem cmpI_ge {a b : Nat} (h : b ≤ a) : cmpI (a : Int) (b : Int) = 0 ∨ cmpI (a : Int) (b : Int) = 1:=by
  unfold cmpI
  rw [if_neg (by omega)]
  by_cases k : (b : Int) < (a : Int)
  · rw [if_pos k]; exact .inr rfl
  · rw [if_neg k]; exact .inl rfl
theorem root_start {n L : Nat} (hn : 0 < n) (h : Bits n L) : 2 ^ (L / 2 + 1) ≤ 4 * n ∧ n < (2 ^ (L / 2 + 1) + 1) * (2 ^ (L / 2 + 1) + 1):=by
  have hL : 0 < L:=by
    rcases Nat.eq_zero_or_pos L with h0 | h0
    · subst h0; have:=h.1; simp at this; omega
    · exact h0
  have h1:=h.2 hL
  have h2:=h.1
  constructor
  · have h3 : 2 ^ (L / 2 + 1) ≤ 2 ^ (L - 1 + 2):=Nat.pow_le_pow_right (by decide) (by omega)
    rw [show 2 ^ (L - 1 + 2) = 2 ^ (L - 1) * 4 from by rw [Nat.pow_add]] at h3
    exact Nat.le_trans h3 (by rw [Nat.mul_comm]; exact Nat.mul_le_mul_left _ h1)
  · have h3 : 2 ^ L ≤ 2 ^ (L / 2 + 1) * 2 ^ (L / 2 + 1):=by
      rw [← Nat.pow_add]
      exact Nat.pow_le_pow_right (by decide) (by omega)
    have h4 : 2 ^ (L / 2 + 1) * 2 ^ (L / 2 + 1) ≤ (2 ^ (L / 2 + 1) + 1) * (2 ^ (L / 2 + 1) + 1):=Nat.mul_le_mul (Nat.le_succ _) (Nat.le_succ _)
    omega
set_option maxHeartbeats 1600000 in
set_option maxRecDepth 100000 in
theorem Sqrt_any {w : World} {b o c p n : Nat} (hz : Slot w b o 2) (hx : IntAt w c p (n : Int)) (hn : (dig (5 * n)).length ≤ 4294967296) :
    Calls Tryz.prog 390 #[.pointer (some ⟨b,o,none⟩),.pointer (some ⟨c,p,none⟩)] w fun e w'=>e = .returned (.pointer (some ⟨b,o,none⟩)) ∧ (∃ r : Nat,r * r ≤ n ∧ n < (r + 1) * (r + 1) ∧ IntAt w' b o (r : Int)) ∧ Touch w w' b o 2:=by
  have HZ:=Lib.hid hz
  have HN:=Lib.hid hn
  rcases Nat.eq_zero_or_pos n with h0 | h0
  · subst h0
    have HX : Hid (IntAt w c p 0):=Lib.hid hx
    clear hz hx hn
    go_enter Tryz.func390,Tryz.ntmps390
    go_wp2_with fail
    refine (sign_any HX.out).mono ?_
    rw [Int.sign_zero]
    rintro e w1 ⟨rfl,rfl⟩
    go_wp2_with fail
    refine (is_any false HZ.out (Words.nil w)).mono ?_
    rintro e w2 ⟨rfl,h1,h2⟩
    have H1:=Lib.hid h1
    have H2:=Lib.hid h2
    clear h1 h2
    go_wp2
    go_ret
    exact ⟨rfl,⟨0,Nat.le_refl _,by decide,H1.out⟩,H2.out⟩
  · have HX:=Lib.hid hx
    have H0:=Lib.hid h0
    have hs : ((n : Nat) : Int).sign = 1:=Int.sign_eq_one_of_pos (by omega)
    clear hz hx hn
    go_enter Tryz.func390,Tryz.ntmps390
    go_wp2_with fail
    refine (sign_any HX.out).mono ?_
    rw [hs]
    rintro e w1 ⟨rfl,rfl⟩
    clear hs h0
    go_wp2_with fail
    have HA:=Lib.hid ((Below.refl w.heap.size w).alloc (Nat.le_refl _) (.cells #[.bool false,.slice none 0 0] 163))
    have HS:=Lib.hid (IntAt.new w).slot
    refine (NewInt_any (n:=1) (by decide)).mono ?_
    rintro e w2 ⟨g1,rfl,hg1,h1,hb1⟩
    have H1:=Lib.hid h1
    have HS2:=Lib.hid (HS.out.on hb1)
    have HB2:=Lib.hid (HA.out.trans (hb1.mono HA.out.size))
    clear h1 hb1 hg1
    go_wp2_with fail
    refine (BitLen_any (HX.out.on HB2.out)).mono ?_
    rintro e w3 ⟨L,rfl,hL,hLb,hb2⟩
    rw [Int.natAbs_natCast] at hL
    obtain ⟨q,hq⟩ : ∃ q,q = L / 2:=⟨_,rfl⟩
    have hqi : (L : Int) / 2 = (q : Int):=by omega
    have hqi2 : (L : Int).tdiv 2 = (q : Int):=by rw [Int.tdiv_eq_ediv_of_nonneg (by omega)]; exact hqi
    obtain ⟨k,hk⟩ : ∃ k,k = q + 1:=⟨_,rfl⟩
    have hki : (q : Int) + 1 = (k : Int):=by omega
    have hkb : k ≤ 274877906945:=by omega
    have hrs:=root_start H0.out hL
    rw [← hq,← hk] at hrs
    have HR:=Lib.hid hrs
    have H1b:=Lib.hid (H1.out.on hb2)
    have HS3:=Lib.hid (HS2.out.on hb2)
    have HB3:=Lib.hid (HB2.out.trans (hb2.mono HB2.out.size))
    have HKL : Hid (k ≤ 137438953472):=by
      have h5 : (dig n).length ≤ 4294967296:=Nat.le_trans (dig_len_mono n (5 * n) (by omega)) HN.out
      have h6:=dig_lt n
      rw [p32] at h6
      obtain ⟨E,hE⟩ : ∃ E : Nat,E = 137438953472:=⟨_,rfl⟩
      have h7 : n < 2 ^ E:=Nat.lt_of_lt_of_le h6 (Nat.pow_le_pow_right (by decide) (by omega))
      have h8 : L ≤ E:=by
        rcases Nat.lt_or_ge E L with h9 | h9
        · have h10:=hL.2 (by omega)
          have h11 : 2 ^ E ≤ 2 ^ (L - 1):=Nat.pow_le_pow_right (by decide) (by omega)
          exact absurd (Nat.lt_of_lt_of_le h7 (Nat.le_trans h11 h10)) (Nat.lt_irrefl _)
        · exact h9
      clear h6 h7 hrs
      show k ≤ 137438953472
      omega
    clear hb2 hL hrs hq hk
    go_wp2_with fail
    refine (Lsh_any (n:=1) (k:=k) HS3.out H1b.out (Nat.le_trans (dig_len_mono 1 (5 * n) (by have:=H0.out; omega)) (Nat.le_trans HN.out (by decide))) HKL.out).mono ?_
    rintro e w4 ⟨rfl,h2,h3⟩
    rw [Nat.one_mul] at h2
    have H2:=Lib.hid h2
    have HB4:=Lib.hid (HB3.out.trans (h3.below (B:=w.heap.size) (Nat.le_refl _) HB3.out.size))
    clear h2 h3
    go_wp2
    go_loopg [5,6] (2 ^ k) (fun m rv sv wr=>∃ (g R : Nat),rv = .pointer (some ⟨g,0,none⟩) ∧ R ≤ m ∧ Hid (w.heap.size ≤ g) ∧ Hid (0 < R) ∧ Hid (R ≤ 4 * n) ∧ Hid (n < (R + 1) * (R + 1)) ∧ Hid (IntAt wr g 0 (R : Int)) ∧ Hid (Below w.heap.size w wr))
    case atStart=>exact ⟨w.heap.size,2 ^ k,rfl,Nat.le_refl _,Nat.le_refl _,Nat.pow_pos (by decide),HR.out.1,HR.out.2,H2.out,HB4.out⟩
    case round =>
      obtain ⟨g,R,rfl,hRm,hg,hR0,hR4,hRn,hr,hb⟩:=hrel
      clear H1 HS HS2 HB2 HS3 HB3 H1b H2 HB4 HA
      go_wp2_with fail
      have hA : Below wr.heap.size wr (wr.alloc (.cells #[.bool false,.slice none 0 0] 163)):=(Below.refl _ _).alloc (Nat.le_refl _) _
      have hS:=(IntAt.new wr).slot
      have hxr:=HX.out.on hb.out
      refine (Quo_any hS (hxr.on hA) (hr.out.on hA) (by have:=hR0.out; omega) (okn_nat (k:=5 * n) (by omega) HN.out)).mono ?_
      rintro e w5 ⟨rfl,h1,h2⟩
      have hq : ((n : Nat) : Int).tdiv ((R : Nat) : Int) = ((n / R : Nat) : Int):=rfl
      rw [hq] at h1
      have B5:=hA.trans (h2.below (B:=wr.heap.size) (Nat.le_refl _) hA.size)
      have HB5:=Lib.hid B5
      have H5:=Lib.hid h1
      clear hA hS hxr h1 h2 B5 hq
      go_wp2_with fail
      have hdn : n / R ≤ n:=Nat.div_le_self _ _
      refine (Add_any H5.out.slot H5.out (hr.out.on HB5.out) (okn_nat (k:=5 * n) (by omega) HN.out) (okn_nat (k:=5 * n) (by have:=hR4.out; omega) HN.out)).mono ?_
      rintro e w6 ⟨rfl,h1,h2⟩
      rw [show ((n / R : Nat) : Int) + ((R : Nat) : Int) = ((n / R + R : Nat) : Int) by omega] at h1
      have HB6:=Lib.hid (HB5.out.trans (h2.below (B:=wr.heap.size) (Nat.le_refl _) HB5.out.size))
      have H6:=Lib.hid h1
      clear h1 h2 hdn
      go_wp2_with fail
      refine (Rsh_any (k:=1) H6.out.slot H6.out (by decide)).mono ?_
      rintro e w7 ⟨rfl,h1,h2⟩
      rw [Nat.pow_one] at h1
      obtain ⟨S,hS⟩ : ∃ S,S = (n / R + R) / 2:=⟨_,rfl⟩
      rw [← hS] at h1
      have HB7:=Lib.hid (HB6.out.trans (h2.below (B:=wr.heap.size) (Nat.le_refl _) HB6.out.size))
      have H7:=Lib.hid h1
      have HSS:=Lib.hid hS
      clear h1 h2 hS
      go_wp2_with fail
      refine (Cmp_any H7.out (hr.out.on HB7.out)).mono ?_
      rintro e w8 ⟨rfl,hb8⟩
      have HB8:=Lib.hid (HB7.out.trans (hb8.mono HB7.out.size))
      have H8:=Lib.hid (H7.out.on hb8)
      clear hb8
      rcases Nat.lt_or_ge S R with hlt | hge
      · rw [cmpI_lt hlt]
        go_wp2
        go_roundg S
        case measure=>exact Nat.lt_of_lt_of_le hlt hRm
        case rel =>
          have e:=HSS.out
          refine ⟨wr.heap.size,S,rfl,Nat.le_refl _,hb.out.size,?_,?_,?_,H8.out,hb.out.trans (HB8.out.mono hb.out.size)⟩
          · rw [Hid,e]; exact newton_pos n R H0.out hR0.out (e ▸ hlt)
          · exact Nat.le_trans (Nat.le_of_lt hlt) hR4.out
          · rw [Hid,e]; exact newton_up n R hR0.out
      · have hend : R * R ≤ n:=newton_end n R hR0.out (HSS.out ▸ hge)
        have HE:=Lib.hid hend
        have hzz : Slot w8 b o 2:=(HZ.out.on hb.out).on HB8.out
        have HZ8:=Lib.hid hzz
        have HR8:=Lib.hid (hr.out.on HB8.out)
        have HT:=Lib.hid (hb.out.trans (HB8.out.mono hb.out.size))
        clear hend hzz
        rcases cmpI_ge hge with h9 | h9
        all_goals
          rw [h9]
          go_wp2_with fail
          refine (set_any HZ8.out HR8.out).mono ?_
          rintro e w9 ⟨rfl,h1,h2⟩
          have K1:=Lib.hid h1
          have K2:=Lib.hid ((Touch.of_below HT.out b o 2).trans h2)
          clear h1 h2
          go_wp2
          go_ret
          exact ⟨rfl,⟨R,HE.out,hRn.out,K1.out⟩,K2.out⟩
end Go.Proofs.YtpccljaooghafaaGreat
end
section
namespace Go.Proofs.YtpccljaooghafaaGreat.Y
open Go Go.RowKit
set_option maxRecDepth 100000
theorem root_uniq {n a b : Nat} (h1 : a * a ≤ n) (h2 : n < (a + 1) * (a + 1)) (k1 : b * b ≤ n) (k2 : n < (b + 1) * (b + 1)) : a = b:=by
  rcases Nat.lt_trichotomy a b with h | h | h
  · have : (a + 1) * (a + 1) ≤ b * b:=Nat.mul_le_mul h h
    omega
  · exact h
  · have : (b + 1) * (b + 1) ≤ a * a:=Nat.mul_le_mul h h
    omega
def eSqrt {m : Int} {n r : Nat} (i p k : Nat) (hm : m = (n : Int)) (h1 : r * r ≤ n) (h2 : n < (r + 1) * (r + 1)) (hn : (dig (5 * n)).length ≤ 4294967296) : Ev Tryz.prog:=.fill 390 Tryz.call390 (fun β=>#[.pointer (some ⟨(β i).b,0,none⟩),.pointer ((β k).v 0)]) [(k,(intT m).ob)] i 2 p (intT (r : Int))
  (fun β w h ho hs=>by
    obtain ⟨b,hb,kb⟩:=needI (n:=m) (k:=k) h (by simp)
    simp only [hb.1]
    rw [hm] at kb
    refine (Sqrt_any hs kb hn).mono fun e w' ⟨he,⟨r',k1,k2,k3⟩,k4⟩=>?_
    rw [root_uniq h1 h2 k1 k2]
    exact ⟨he,⟨_,ho.at1,k3⟩,k4⟩)
def fSqrt {m : Int} {n r : Nat} (hm : m = (n : Int)) (h1 : r * r ≤ n) (h2 : n < (r + 1) * (r + 1)) (hn : (dig (5 * n)).length ≤ 4294967296) : Ev Tryz.prog:=dyn2 fun i p k=>eSqrt i p k hm h1 h2 hn
def mkI : Ev Tryz.prog:=dynMk 163 2
theorem nat_sign {m : Int} {n : Nat} (h : m = (n : Int)) : Value.bool (decide (m.sign < 0)) = .bool false:=by
  rw [h]
  cases n <;> rfl
abbrev half12 : Rat:=Rat.divInt 1 2
theorem sz_half : Sz 8 half12:=sz_lit 1 2 (by decide) (by decide) (by decide)
end Go.Proofs.YtpccljaooghafaaGreat.Y
end
section
namespace Go.Proofs.YtpccljaooghafaaGreat
open Go.RowKit
def pv (g : Nat) : Value:=.pointer (some ⟨g,0,none⟩)
theorem ptr_info : (Tryz.prog.info? 158).map (fun i=>(i.zero,i.size,i.bytes)) = some (some (.pointer none),1,8):=by kernel_rfl
def PRow (w : World) (base : Nat) (v : Value) (zs : List Nat) : Prop:=w.ownsRow base 158 1 v zs.length (zs.map pv)
theorem PRow.nil (w : World) (base : Nat) : PRow w base (.slice none 0 0) []:=by simpa [PRow] using World.ownsRow_nil w base 158 1
theorem PRow.alloc {w : World} {base : Nat} {v : Value} {zs : List Nat} (h : PRow w base v zs) (o : Obj) : PRow (w.alloc o) base v zs:=World.ownsRow.alloc h o
theorem PRow.open_ {w : World} {base : Nat} {v : Value} {zs : List Nat} (h : PRow w base v zs) (h0 : 0 < zs.length) :
    ∃ g cap,v = .slice (some ⟨g,0,none⟩) zs.length cap ∧ base ≤ g ∧ g < w.heap.size ∧ ∀ i,i < zs.length → w.cell? ⟨g,i,none⟩ = some (pv (zs.getD i 0)):=by
  obtain ⟨hlen,h2⟩:=h
  rcases h2 with ⟨rfl,h1⟩ | ⟨g,cap,cur,rfl,hg,hh,hc,_,hcs,ht⟩
  · omega
  · refine ⟨g,cap,rfl,hg,heap_some_lt hh,fun i hi=>?_⟩
    have h3 : (cur.toList.take (zs.length * 1))[i]? = (zs.map pv)[i]?:=by rw [ht]
    rw [List.getElem?_take_of_lt (by omega),List.getElem?_map,List.getElem?_eq_getElem hi] at h3
    rw [cell_of_row _ _ _ _ _ _ hh,← Array.getElem?_toList,h3,getD_in hi]
    rfl
theorem wpList_append_ptr {ops : Array Oper} {rest : List Oper} {o : Oper} {a : Act} {w : World} {Q : Exit → Act → World → Prop} (hg : o.guard = none) (s x : Operand)
    (ho : o.op = .call { callee:=.builtin .append,args:=#[s,x],argTypes:=#[313,313] })
    (base : Nat) (v : Value) (zs : List Nat) (hs : a.eval s = v) (hown : PRow w base v zs) (ad : Addr) (c : Nat) (y : Nat) (hx : a.eval x = .slice (some ad) 1 c) (hcell : w.cell? ad = some (pv y))
    (hlen : zs.length ≤ 17179869184) (hbase : base ≤ w.heap.size)
    (hK : ∀ v' w',PRow w' base v' (zs ++ [y]) → Below base w w' → w.grownBy w' v.ownBlock → wpList Tryz.prog ops Q rest (a.put o.dst v') w') : wpList Tryz.prog ops Q (o :: rest) a w:=by
  obtain ⟨i0,hi,hz0,hz1,hz2⟩:=info_parts ptr_info
  refine wpList_append_own w hg s x 313 ho base 158 i0 (.pointer none) 1 8 Tryz.underlying313 hi hz0 hz1 hz2 rfl (by decide) v zs.length (zs.map pv) hs hown ad 1 c [pv y] hx rfl ?_ ?_ (by simp only [maxLen]; omega) (by omega) hbase ?_
  · intro j u hj
    cases j with
    | zero =>
      simp at hj
      subst hj
      simpa [Addr.add] using hcell
    | succ j=>simp at hj
  · intro u hu
    simp at hu
    subst hu
    rfl
  · intro v' w' h1 h2 _
    refine hK v' w' (by simpa [PRow] using h1) ((Below.refl _ _).grown h2 hbase fun k hk=>?_) h2
    · rcases hown.2 with ⟨rfl,_⟩ | ⟨g,cap,cur,rfl,hb,_⟩
      · simp [Value.ownBlock] at hk
      · simp [Value.ownBlock] at hk
        omega
def OfPost (b : Bool) (s : ByteArray) (w : World) (e : Ending) (w' : World) : Prop :=
  ((WholeOk b s ∧ ∃ h cap p,e = .returned (.tuple #[.slice (some ⟨h,0,none⟩) 1 cap,.bool true]) ∧ w'.cell? ⟨h,0,none⟩ = some (.pointer (some ⟨p,0,none⟩)) ∧ IntAt w' p 0 (numOf b s)) ∨
    (¬ WholeOk b s ∧ e = .returned (.tuple #[.slice none 0 0,.bool false]))) ∧ Below w.heap.size w w'
def OfPost2 (b : Bool) (s : ByteArray) (w : World) (e : Ending) (w' : World) : Prop :=
  ((WholeOk b s ∧ ∃ h cap p,e = .returned (.tuple #[.slice (some ⟨h,0,none⟩) 1 cap,.bool true]) ∧ w'.cell? ⟨h,0,none⟩ = some (.pointer (some ⟨p,0,none⟩)) ∧ IntAt w' p 0 (numOf b s) ∧ Hid (w.heap.size ≤ h ∧ w.heap.size ≤ p)) ∨
    (¬ WholeOk b s ∧ e = .returned (.tuple #[.slice none 0 0,.bool false]))) ∧ Below w.heap.size w w'
set_option maxHeartbeats 1600000 in
set_option maxRecDepth 100000 in
theorem of_one2 {w0 : World} {a cap : Nat} (b : Bool) (s : ByteArray) (hs : s.size ≤ 4294967296) {T : TypeId} (ha : BoxAt w0 a #[.bool b,.string s] T) :
    Calls Tryz.prog 376 #[.slice (some ⟨a,0,none⟩) 1 cap] w0 (OfPost2 b s w0):=by
  have hcv:=fun (w : World)=>run_bytes_of_string (P:=Tryz.prog) w 9 249 5 s Tryz.underlying9 Tryz.underlying249 Tryz.underlying5
  have HS:=Lib.hid hs
  have HS2 : Hid (s.size ≤ maxLen):=by unfold Hid maxLen; omega
  have HX:=Lib.hid ha
  have hc0:=ha.cell 0 (.bool b) rfl
  have hc1:=ha.cell 1 (.string s) rfl
  clear hs ha
  go_enter Tryz.func376,Tryz.ntmps376
  go_wp2
  go_loopw [4,10] (fun v i wr=>Below w0.heap.size w0 wr ∧ ((v = .slice none 0 0 ∧ i = .int .i64 0) ∨ (WholeOk b s ∧ i = .int .i64 1 ∧ ∃ h cap p,v = .slice (some ⟨h,0,none⟩) 1 cap ∧ wr.cell? ⟨h,0,none⟩ = some (.pointer (some ⟨p,0,none⟩)) ∧ IntAt wr p 0 (numOf b s) ∧ Hid (w0.heap.size ≤ h ∧ w0.heap.size ≤ p)))) (fun _ i _=>1 - (intOf i).toNat)
  case atStart=>exact ⟨Below.refl _ _,.inl ⟨rfl,rfl⟩⟩
  case round =>
    obtain ⟨hb,h | h⟩:=hrel
    · obtain ⟨rfl,rfl⟩:=h
      have HBR:=Lib.hid hb
      have hd0:=(HX.out.on hb).cell 0 (.bool b) rfl
      have hd1:=(HX.out.on hb).cell 1 (.string s) rfl
      have HN:=Lib.hid (BoxAt.new wr #[.bool b,.string s] 23)
      have HBN:=Lib.hid (below_new wr (.cells #[.bool b,.string s] 23))
      clear hb hc0 hc1
      go_wp2_with fail
      refine (Check_any b s HS2.out).mono ?_
      rintro e w1 ⟨k,rfl,hk,hb⟩
      have HB1:=Lib.hid ((HBR.out.trans (HBN.out.mono HBR.out.size)).trans (hb.mono (Nat.le_trans HBR.out.size HBN.out.size)))
      have HN1:=Lib.hid (HN.out.on hb)
      have hl1 : wr.heap.size < w1.heap.size:=HN1.out.lt
      clear hb hd0 hd1
      by_cases ho : WholeOk b s
      · obtain rfl : k = 0:=hk.elim (fun h=>h.1) (fun h=>absurd ho h.2)
        have HO:=Lib.hid ho
        have hn0:=HN1.out.cell 0 (.bool b) rfl
        have hn1:=HN1.out.cell 1 (.string s) rfl
        clear hk ho
        go_wp2_with fail
        generalize hW2 : w1.alloc (.cells #[.bool false,.slice none 0 0] 163) = W2
        have hi : IntAt W2 w1.heap.size 0 0:=by rw [← hW2]; exact IntAt.new _
        have hx : BoxAt W2 wr.heap.size #[.bool b,.string s] 23:=by rw [← hW2]; exact HN1.out.on (below_new _ _)
        have hb : Below w1.heap.size w1 W2:=by rw [← hW2]; exact below_new _ _
        have hsz : w1.heap.size + 1 = W2.heap.size:=by rw [← hW2]; simp
        have hby:=byt_row (W:=W2) s (grownCap W2 s.size 0 5) (grownCap W2 s.size 0 5) (w1.heap.size + 1) ((bytesRow s (grownCap W2 s.size 0 5)).size,(bytesRow s (grownCap W2 s.size 0 5)).size + 1) hsz
        have hbl:=below_row W2 (bytesRow s (grownCap W2 s.size 0 5)) 5 ((bytesRow s (grownCap W2 s.size 0 5)).size,(bytesRow s (grownCap W2 s.size 0 5)).size + 1)
        clear hW2
        generalize grownCap W2 s.size 0 5 = c at hby hbl ⊢
        generalize (W2.alloc (.cells (bytesRow s c) 5 ((bytesRow s c).size,(bytesRow s c).size + 1))).drew = W3 at hby hbl ⊢
        refine (SetBytes_any (hi.on hbl).slot hby HS.out).mono ?_
        rintro e w4 ⟨rfl,h1,h2⟩
        rw [List.reverse_reverse] at h1
        have HT:=Lib.hid (h2.below (B:=w1.heap.size) (Nat.le_refl _) (by have:=hbl.size; omega))
        have HB4:=Lib.hid ((hb.trans (hbl.mono hb.size)).trans HT.out)
        have hd0 : w4.cell? ⟨wr.heap.size,0,none⟩ = some (.bool b):=by rw [HB4.out.cell (by simp; omega)]; exact HN1.out.cell 0 _ rfl
        have HI:=Lib.hid h1
        have HBB:=Lib.hid (HB1.out.trans (HB4.out.mono HB1.out.size))
        clear h1 h2 hi hx hb hsz hby hbl hn0 hn1
        cases b
        · have HV : Hid (IntAt w4 w1.heap.size 0 (numOf false s)):=by
            have:=HI.out
            simpa [Hid,numOf,sg,num] using this
          go_wp2_with (at_builtin; refine wpList_append_ptr rfl (.tmp 32) (.tmp 34) rfl w0.heap.size _ [] rfl ((PRow.nil _ _).alloc _) ⟨w4.heap.size,0,none⟩ 1 w1.heap.size rfl (cell_new0 _ _ _) ?_ ?_ ?_)
          · exact Nat.zero_le _
          · have:=HBB.out.size; simp; omega
          intro v' w6 hrow hb6 hgr
          obtain ⟨h,cap2,rfl,hge,hlt,hcc⟩:=hrow.open_ (by simp)
          have HG : Hid (w0.heap.size ≤ h ∧ w0.heap.size ≤ w1.heap.size):=⟨hge,HB1.out.size⟩
          clear hge
          have HC:=Lib.hid (hcc 0 (by simp))
          have HB6:=Lib.hid ((HBB.out.trans ((below_new w4 (.cells #[.pointer (some ⟨w1.heap.size,0,none⟩)] 158)).mono HBB.out.size)).trans hb6)
          have HV6:=Lib.hid ((HV.out.on (below_new w4 (.cells #[.pointer (some ⟨w1.heap.size,0,none⟩)] 158))).on (Below.grown (Below.refl _ _) hgr (Nat.le_refl _) (fun k hk=>by simp [Value.ownBlock] at hk)))
          clear hrow hb6 hgr hcc
          go_wp2
          go_roundw
          case rel=>exact ⟨HB6.out,.inr ⟨HO.out,by go_num,h,cap2,_,rfl,HC.out,HV6.out,HG⟩⟩
          case measure=>simp [intOf]
        · go_wp2_with fail
          refine (neg_any HI.out.slot HI.out).mono ?_
          rintro e w5 ⟨rfl,h1,h2⟩
          have HV : Hid (IntAt w5 w1.heap.size 0 (numOf true s)):=by
            have:=h1
            simpa [Hid,numOf,sg,num] using this
          have HB5:=Lib.hid (HBB.out.trans (h2.below (B:=w0.heap.size) (by have:=HB1.out.size; omega) HBB.out.size))
          clear h1 h2 hd0
          go_wp2_with (at_builtin; refine wpList_append_ptr rfl (.tmp 32) (.tmp 34) rfl w0.heap.size _ [] rfl ((PRow.nil _ _).alloc _) ⟨w5.heap.size,0,none⟩ 1 w1.heap.size rfl (cell_new0 _ _ _) ?_ ?_ ?_)
          · exact Nat.zero_le _
          · have:=HB5.out.size; simp; omega
          intro v' w6 hrow hb6 hgr
          obtain ⟨h,cap2,rfl,hge,hlt,hcc⟩:=hrow.open_ (by simp)
          have HG : Hid (w0.heap.size ≤ h ∧ w0.heap.size ≤ w1.heap.size):=⟨hge,HB1.out.size⟩
          clear hge
          have HC:=Lib.hid (hcc 0 (by simp))
          have HB6:=Lib.hid ((HB5.out.trans ((below_new w5 (.cells #[.pointer (some ⟨w1.heap.size,0,none⟩)] 158)).mono HB5.out.size)).trans hb6)
          have HV6:=Lib.hid ((HV.out.on (below_new w5 (.cells #[.pointer (some ⟨w1.heap.size,0,none⟩)] 158))).on (Below.grown (Below.refl _ _) hgr (Nat.le_refl _) (fun k hk=>by simp [Value.ownBlock] at hk)))
          clear hrow hb6 hgr hcc
          go_wp2
          go_roundw
          case rel=>exact ⟨HB6.out,.inr ⟨HO.out,by go_num,h,cap2,_,rfl,HC.out,HV6.out,HG⟩⟩
          case measure=>simp [intOf]
      · obtain rfl : k = 2:=hk.elim (fun h=>absurd h.2 ho) (fun h=>h.1)
        have HO:=Lib.hid ho
        clear hk ho
        go_wp2
        go_ret2
        exact ⟨.inr ⟨HO.out,rfl⟩,HB1.out⟩
    · obtain ⟨ho,rfl,h,cap2,p,rfl,hc,hi,HG⟩:=h
      have HO:=Lib.hid ho
      have HC:=Lib.hid hc
      have HI:=Lib.hid hi
      have HB:=Lib.hid hb
      clear ho hc hi hb hc0 hc1
      go_wp2
      go_ret2
      exact ⟨.inl ⟨HO.out,h,cap2,p,rfl,HC.out,HI.out,HG⟩,HB.out⟩
theorem of_one {w0 : World} {a cap : Nat} (b : Bool) (s : ByteArray) (hs : s.size ≤ 4294967296) {T : TypeId} (ha : BoxAt w0 a #[.bool b,.string s] T) :
    Calls Tryz.prog 376 #[.slice (some ⟨a,0,none⟩) 1 cap] w0 (OfPost b s w0) :=
  (of_one2 b s hs ha).mono fun e w' ⟨h,hb⟩=>⟨h.imp (fun ⟨ho,h,cap,p,h1,h2,h3,_⟩=>⟨ho,h,cap,p,h1,h2,h3⟩) id,hb⟩
end Go.Proofs.YtpccljaooghafaaGreat
end
section
namespace Go.Proofs.YtpccljaooghafaaGreat
open Go.RowKit
theorem GE.rat {base : Nat} {wr : List (Nat × Nat)} {γ : Gh} {w w' : World} (h : GE base wr γ w w') {g : Nat} {q : Rat} (hx : RatAt w g 0 q) : (∃ p ∈ wr,∃ v,γ p.1 = some v ∧ blk v = some g ∧ γ p.2 = none ∧ base ≤ g) ∨ RatAt w' g 0 q:=by
  obtain ⟨h1,h2,d,h3,h4⟩:=hx
  rcases h.int _ _ _ h2 with k | k
  · exact .inl k
  · rcases h.int _ _ _ h3 with k2 | k2
    · exact .inl k2
    · exact .inr ⟨h.slot _ _ _ h1,k,d,k2,h4⟩
def VP (base : Nat) (w : World) (v : Value) : Prop:=∃ g,v = .pointer (some ⟨g,0,none⟩) ∧ base ≤ g ∧ Slot w g 0 4
def VQ (q : Rat) (w : World) (v : Value) : Prop:=∃ g,v = .pointer (some ⟨g,0,none⟩) ∧ RatAt w g 0 q
def VR (base a : Nat) (q : Rat) (γ : Gh) (w : World) (v : Value) : Prop:=∃ g,v = .pointer (some ⟨g,0,none⟩) ∧ γ a = some (.pointer (some ⟨g,0,none⟩)) ∧ base ≤ g ∧ RatAt w g 0 q
theorem VP.stable {base : Nat} {wr : List (Nat × Nat)} {γ : Gh} {w w' : World} {v : Value} (h : VP base w v) (hE : GE base wr γ w w') : VP base w' v:=by
  obtain ⟨g,h1,h2,h3⟩:=h
  exact ⟨g,h1,h2,hE.slot _ _ _ h3⟩
theorem VQ.stable {base : Nat} {w0 : World} {ow : List Nat} {wr : List (Nat × Nat)} {γ : Gh} {w w' : World} {v : Value} {q : Rat} (i : Nat) (h : VQ q w v) (hC : GC base w0 ow γ w) (hE : GE base wr γ w w') (hi : γ i = some v) (hb : (ow.contains i && wr.all fun p=>ow.contains p.1 && p.1 != i) = true) : VQ q w' v:=by
  obtain ⟨g,rfl,h2⟩:=h
  rw [Bool.and_eq_true] at hb
  rcases hE.rat h2 with ⟨p,hp,u,k1,k2,_,k4⟩ | k
  · have h3:=List.all_eq_true.1 hb.2 p hp
    rw [Bool.and_eq_true,bne_iff_ne] at h3
    have:=hC.apart i (List.contains_iff_mem.1 hb.1) p.1 (List.contains_iff_mem.1 h3.1) (Ne.symm h3.2) _ _ g hi k1 rfl k2
    omega
  · exact ⟨g,rfl,k⟩
theorem VR.stable {base a : Nat} {w0 : World} {ow : List Nat} {wr : List (Nat × Nat)} {γ : Gh} {w w' : World} {v x : Value} {q : Rat} (i k : Nat) (h : VR base a q γ w v) (hC : GC base w0 ow γ w) (hE : GE base wr γ w w') (hk : γ k = none) (hi : γ i = some v) (hb : (ow.contains a && wr.all fun p=>ow.contains p.1 && (p.1 != a || p.2 == i)) = true) : VR base a q (γ.upd k x) w' v:=by
  obtain ⟨g,rfl,h1,h2,h3⟩:=h
  rw [Bool.and_eq_true] at hb
  rcases hE.rat h3 with ⟨p,hp,u,k1,k2,k3,k4⟩ | k5
  · have h4:=List.all_eq_true.1 hb.2 p hp
    rw [Bool.and_eq_true,Bool.or_eq_true,bne_iff_ne,beq_iff_eq] at h4
    by_cases e : p.1 = a
    · have : p.2 = i:=by rcases h4.2 with h5 | h5; exact absurd e h5; exact h5
      rw [this,hi] at k3
      cases k3
    · have:=hC.apart a (List.contains_iff_mem.1 hb.1) p.1 (List.contains_iff_mem.1 h4.1) (Ne.symm e) _ _ g h1 k1 rfl k2
      omega
  · exact ⟨g,rfl,upd_some h1 hk,h2,k5⟩
end Go.Proofs.YtpccljaooghafaaGreat
end
section
namespace Go.Proofs.YtpccljaooghafaaGreat
open Go.RowKit
set_option maxHeartbeats 3200000 in
set_option maxRecDepth 100000 in
theorem both_add {w0 : World} (b c b2 c2 : Bool) (s t s2 t2 : ByteArray) (hs : s.size ≤ maxLen) (ht : t.size ≤ maxLen) (hs2 : s2.size ≤ maxLen) (ht2 : t2.size ≤ maxLen) :
    Calls Tryz.prog 289 #[.agg #[.bool b,.string s,.bool c,.string t],.agg #[.bool b2,.string s2,.bool c2,.string t2],.func (.func 144) #[] #[]] w0 (BinPost (fun x y=>x + y) (.agg #[.bool b,.string s,.bool c,.string t]) (.agg #[.bool b2,.string s2,.bool c2,.string t2]) w0):=by
  have HS:=Lib.hid hs
  have HT:=Lib.hid ht
  have HS2:=Lib.hid hs2
  have HT2:=Lib.hid ht2
  have HW0:=Lib.hid (Two.new w0 #[.bool b,.string s,.bool c,.string t] #[.bool b2,.string s2,.bool c2,.string t2])
  clear hs ht hs2 ht2
  go_enter Tryz.func289,Tryz.ntmps289
  go_wp2_with fail
  refine (May_any b c s t HS.out HT.out).mono ?_
  rintro e w1 ⟨r,rfl,hr,hb⟩
  have HW1:=Lib.hid (HW0.out.on hb)
  have HR:=Lib.hid hr
  clear hb hr
  cases r
  · have hp0:=HW1.out.place.cell 0 _ rfl
    have hp1:=HW1.out.place.cell 1 _ rfl
    have hp2:=HW1.out.place.cell 2 _ rfl
    have hp3:=HW1.out.place.cell 3 _ rfl
    have hf:=HW1.out.place.frozen
    go_wp2
    have hk:=HW1.out.place.put4 (.bool false) (.string ⟨#[]⟩) (.bool false) (.string ⟨#[]⟩)
    have k0:=hk.cell 0 _ rfl
    have k1:=hk.cell 1 _ rfl
    have k2:=hk.cell 2 _ rfl
    have k3:=hk.cell 3 _ rfl
    exact bodyPost_ret (v:=.tuple #[frac0,.int .i64 2]) (by simp [results,Tryz.results289,go_sem,k0,k1,k2,k3,frac0]) rfl ⟨_,_,rfl,.inr ⟨.inl fun h=>Bool.noConfusion (HR.out.2 h),rfl,rfl⟩,below_put4 HW1.out.below (by omega) _ _ _ _⟩
  have hc0:=HW1.out.two.cell 0 (.bool b2) rfl
  have hc1:=HW1.out.two.cell 1 (.string s2) rfl
  have hc2:=HW1.out.two.cell 2 (.bool c2) rfl
  have hc3:=HW1.out.two.cell 3 (.string t2) rfl
  go_wp2_with fail
  refine (May_any b2 c2 s2 t2 HS2.out HT2.out).mono ?_
  rintro e w2 ⟨r,rfl,hr,hb⟩
  have HW2:=Lib.hid (HW1.out.on hb)
  have HR2:=Lib.hid hr
  clear hb hr hc0 hc1 hc2 hc3
  cases r
  · have hp0:=HW2.out.place.cell 0 _ rfl
    have hp1:=HW2.out.place.cell 1 _ rfl
    have hp2:=HW2.out.place.cell 2 _ rfl
    have hp3:=HW2.out.place.cell 3 _ rfl
    have hf:=HW2.out.place.frozen
    go_wp2
    have hk:=HW2.out.place.put4 (.bool false) (.string ⟨#[]⟩) (.bool false) (.string ⟨#[]⟩)
    have k0:=hk.cell 0 _ rfl
    have k1:=hk.cell 1 _ rfl
    have k2:=hk.cell 2 _ rfl
    have k3:=hk.cell 3 _ rfl
    exact bodyPost_ret (v:=.tuple #[frac0,.int .i64 2]) (by simp [results,Tryz.results289,go_sem,k0,k1,k2,k3,frac0]) rfl ⟨_,_,rfl,.inr ⟨.inr fun h=>Bool.noConfusion (HR2.out.2 h),rfl,rfl⟩,below_put4 HW2.out.below (by omega) _ _ _ _⟩
  obtain ⟨x,hx⟩:=parts_of (by first | exact HR.out.1 rfl | exact HR.out.1 trivial)
  obtain ⟨y,hy⟩:=parts_of (by first | exact HR2.out.1 rfl | exact HR2.out.1 trivial)
  have HX:=Lib.hid hx
  have HY:=Lib.hid hy
  clear hx hy HR HR2 HW1 HW0
  go_wp2
  have hok:=(HX.out.fit.sz.add HY.out.fit.sz).okR (by decide)
  have HOK:=Lib.hid hok
  clear hok
  refine wp_region_ghost 10 (GC w2.heap.size w2 [1,3,5]) (fun γ wq _ wr=>GE w2.heap.size [(1,6)] γ wq wr) (fun i γ wq v=>match i with
      | 0=>v = .func (.func 144) #[] #[]
      | 1=>VP w2.heap.size wq v
      | 2=>v = .agg #[.bool b,.string s,.bool c,.string t]
      | 3=>VQ (x) wq v
      | 4=>v = .agg #[.bool b2,.string s2,.bool c2,.string t2]
      | 5=>VQ (y) wq v
      | 6=>VR w2.heap.size 1 ((fun x y=>x + y) x y) γ wq v
      | 7=>v = .tuple #[ansV ((fun x y=>x + y) x y),.int .i64 (ansK ((fun x y=>x + y) x y))]
      | 8=>v = ansV ((fun x y=>x + y) x y)
      | 9=>v = .int .i64 (ansK ((fun x y=>x + y) x y))
      | _=>True) (by kernel_rfl) (by kernel_rfl) (by kernel_rfl) (GC.start _ (Nat.le_refl _)) ?_ ⟨?_,?_,?_,?_,?_,?_,?_,?_,?_,?_,trivial⟩ ?_
  · intro i γ w1 k xq w2 v hC hC2 hE hk hi hV
    match i with
    | 0=>exact hV
    | 1=>exact VP.stable hV hE
    | 2=>exact hV
    | 3=>exact VQ.stable 3 hV hC hE hi rfl
    | 4=>exact hV
    | 5=>exact VQ.stable 5 hV hC hE hi rfl
    | 6=>exact VR.stable 6 k hV hC hE hk hi rfl
    | 7=>exact hV
    | 8=>exact hV
    | 9=>exact hV
    | _ + 10=>trivial
  · intro a' γ w' hag hC hk hd K hK
    have e2 : a'.tmps.getD 2 undef = .func (.func 144) #[] #[]:=hag 2 rfl
    go_step
    exact hK _ _ (hC.step 0 _ rfl (Below.refl _ _)) (GE.refl _ _ _ _) rfl
  · intro a' γ w' hag hC hk hd K hK
    have hb:=below_new w' (.cells #[.bool false,.slice none 0 0,.bool false,.slice none 0 0] 165)
    have HK:=Lib.hid (hK (.pointer (some ⟨w'.heap.size,0,none⟩)) _ (hC.own 1 _ _ hb (RatAt.new w').slot.lt (.inr (Nat.le_refl _))) (GE.below _ _ hb) ⟨_,rfl,hC.size,(RatAt.new w').slot⟩)
    clear hb hK hC
    go_step
    exact HK.out
  · intro a' γ w' hag hC hk hd K hK
    have e3 : a'.tmps.getD 3 undef = .pointer (some ⟨w0.heap.size,0,none⟩):=hag 3 rfl
    have hT:=HW2.out.on hC.below
    have hc0:=hT.one.cell 0 (.bool b) rfl
    have hc1:=hT.one.cell 1 (.string s) rfl
    have hc2:=hT.one.cell 2 (.bool c) rfl
    have hc3:=hT.one.cell 3 (.string t) rfl
    have HK:=Lib.hid (hK (.agg #[.bool b,.string s,.bool c,.string t]) _ (hC.step 2 _ rfl (Below.refl _ _)) (GE.refl _ _ _ _) rfl)
    clear hK hC hT
    go_step
    exact HK.out
  · intro a' γ w' hag hC hk hd K hK
    have e19 : a'.tmps.getD 19 undef = .agg #[.bool b,.string s,.bool c,.string t]:=hd.1.2
    have hx:=Lib.hid (rat_frac (w:=w') HX.out)
    go_step
    refine hx.out.mono ?_
    rintro e w2 ⟨g,rfl,h3,h1,h2⟩
    exact hK _ _ (hC.own 3 _ _ h2 h1.slot.lt (.inr h3)) (GE.below _ _ h2) ⟨_,rfl,h1⟩
  · intro a' γ w' hag hC hk hd K hK
    have e4 : a'.tmps.getD 4 undef = .pointer (some ⟨w0.heap.size + 1,0,none⟩):=hag 4 rfl
    have hT:=HW2.out.on hC.below
    have hc0:=hT.two.cell 0 (.bool b2) rfl
    have hc1:=hT.two.cell 1 (.string s2) rfl
    have hc2:=hT.two.cell 2 (.bool c2) rfl
    have hc3:=hT.two.cell 3 (.string t2) rfl
    have HK:=Lib.hid (hK (.agg #[.bool b2,.string s2,.bool c2,.string t2]) _ (hC.step 4 _ rfl (Below.refl _ _)) (GE.refl _ _ _ _) rfl)
    clear hK hC hT
    go_step
    exact HK.out
  · intro a' γ w' hag hC hk hd K hK
    have e21 : a'.tmps.getD 21 undef = .agg #[.bool b2,.string s2,.bool c2,.string t2]:=hd.1.2
    have hx:=Lib.hid (rat_frac (w:=w') HY.out)
    go_step
    refine hx.out.mono ?_
    rintro e w2 ⟨g,rfl,h3,h1,h2⟩
    exact hK _ _ (hC.own 5 _ _ h2 h1.slot.lt (.inr h3)) (GE.below _ _ h2) ⟨_,rfl,h1⟩
  · intro a' γ w' hag hC hk hd K hK
    have e17 : a'.tmps.getD 17 undef = .func (.func 144) #[] #[]:=hd.1.2
    have q18 : VP w2.heap.size w' (a'.tmps.getD 18 undef):=hd.2.1.2
    have gg18 : γ 1 = some (a'.tmps.getD 18 undef):=hd.2.1.1
    obtain ⟨g18,e18,hb18,hs18⟩:=q18
    rw [e18] at gg18
    have e18 : a'.tmps.getD 18 undef = .pointer (some ⟨g18,0,none⟩):=e18
    have q20 : VQ (x) w' (a'.tmps.getD 20 undef):=hd.2.2.1.2
    have gg20 : γ 3 = some (a'.tmps.getD 20 undef):=hd.2.2.1.1
    obtain ⟨g20,e20,h20⟩:=q20
    rw [e20] at gg20
    have e20 : a'.tmps.getD 20 undef = .pointer (some ⟨g20,0,none⟩):=e20
    have q22 : VQ (y) w' (a'.tmps.getD 22 undef):=hd.2.2.2.1.2
    have gg22 : γ 5 = some (a'.tmps.getD 22 undef):=hd.2.2.2.1.1
    obtain ⟨g22,e22,h22⟩:=q22
    rw [e22] at gg22
    have e22 : a'.tmps.getD 22 undef = .pointer (some ⟨g22,0,none⟩):=e22
    have hx:=Lib.hid (rAdd_any hs18 h20 h22 HX.out.fit.okR HY.out.fit.okR)
    go_step
    refine hx.out.mono ?_
    rintro e w2 ⟨rfl,h1,h2⟩
    exact hK _ _ (hC.step 6 _ rfl (h2.below hb18 hC.size)) (GE.write 1 6 rfl hs18 h2 gg18 hk hb18) ⟨_,rfl,upd_some gg18 hk,hb18,h1⟩
  · intro a' γ w' hag hC hk hd K hK
    have q23 : VR w2.heap.size 1 ((fun x y=>x + y) x y) γ w' (a'.tmps.getD 23 undef):=hd.1.2
    have gg23 : γ 6 = some (a'.tmps.getD 23 undef):=hd.1.1
    obtain ⟨g23,e23,ga23,hb23,h23⟩:=q23
    rw [e23] at gg23
    have e23 : a'.tmps.getD 23 undef = .pointer (some ⟨g23,0,none⟩):=e23
    have hx:=Lib.hid (answer_any h23 HOK.out)
    go_step
    refine hx.out.mono ?_
    rintro e w2 ⟨v,k,rfl,h1,h2⟩
    rw [(ans_eq h1).1,(ans_eq h1).2]
    exact hK _ _ (hC.step 7 _ rfl (h2.mono hC.size)) (GE.below _ _ h2) rfl
  · intro a' γ w' hag hC hk hd K hK
    have e24 : a'.tmps.getD 24 undef = .tuple #[ansV ((fun x y=>x + y) x y),.int .i64 (ansK ((fun x y=>x + y) x y))]:=hd.1.2
    go_step
    exact hK _ _ (hC.step 8 _ rfl (Below.refl _ _)) (GE.refl _ _ _ _) rfl
  · intro a' γ w' hag hC hk hd K hK
    have e24 : a'.tmps.getD 24 undef = .tuple #[ansV ((fun x y=>x + y) x y),.int .i64 (ansK ((fun x y=>x + y) x y))]:=hd.1.2
    go_step
    exact hK _ _ (hC.step 9 _ rfl (Below.refl _ _)) (GE.refl _ _ _ _) rfl
  · intro γ u w' hC hgh hall
    obtain ⟨u0,u1,u2,u3,u4,u5,u6,u7,u8,u9,_⟩:=hall
    have u0 : u 0 = .func (.func 144) #[] #[]:=u0
    obtain ⟨g18,eu1,hb18,hs18⟩:=u1
    have u1 : u 1 = .pointer (some ⟨g18,0,none⟩):=eu1
    have u2 : u 2 = .agg #[.bool b,.string s,.bool c,.string t]:=u2
    have u4 : u 4 = .agg #[.bool b2,.string s2,.bool c2,.string t2]:=u4
    have u7 : u 7 = .tuple #[ansV ((fun x y=>x + y) x y),.int .i64 (ansK ((fun x y=>x + y) x y))]:=u7
    have u8 : u 8 = ansV ((fun x y=>x + y) x y):=u8
    have u9 : u 9 = .int .i64 (ansK ((fun x y=>x + y) x y)):=u9
    simp only [fillR,List.take_succ_cons,List.take_zero,Act.put,List.setIfInBounds_toArray,List.set_cons_succ,List.set_cons_zero,Nat.zero_add,Nat.reduceAdd,u0,u1,u2,u4,u7,u8,u9]
    clear u0 u1 u2 u4 u7 u8 u9
    have HC:=Lib.hid (HW2.out.on hC.below)
    clear hC
    obtain ⟨pb,ps,pc,pt,hv⟩:=(ansV_ans ((fun x y=>x + y) x y)).agg
    have HA:=Lib.hid (ansV_ans ((fun x y=>x + y) x y))
    rw [hv] at HA ⊢
    generalize ansK ((fun x y=>x + y) x y) = k at HA ⊢
    clear hv
    have hp0:=HC.out.place.cell 0 _ rfl
    have hp1:=HC.out.place.cell 1 _ rfl
    have hp2:=HC.out.place.cell 2 _ rfl
    have hp3:=HC.out.place.cell 3 _ rfl
    have hf:=HC.out.place.frozen
    go_wp2
    have hk:=HC.out.place.put4 (.bool pb) (.string ps) (.bool pc) (.string pt)
    have k0:=hk.cell 0 _ rfl
    have k1:=hk.cell 1 _ rfl
    have k2:=hk.cell 2 _ rfl
    have k3:=hk.cell 3 _ rfl
    exact bodyPost_ret (v:=.tuple #[.agg #[.bool pb,.string ps,.bool pc,.string pt],.int .i64 k]) (by simp [results,Tryz.results289,go_sem,k0,k1,k2,k3]) rfl ⟨_,_,rfl,.inl ⟨x,y,HX.out.fit,HY.out.fit,HX.out.val,HY.out.val,HA.out⟩,below_put4 HC.out.below (by omega) _ _ _ _⟩
set_option maxHeartbeats 3200000 in
set_option maxRecDepth 100000 in
theorem both_sub {w0 : World} (b c b2 c2 : Bool) (s t s2 t2 : ByteArray) (hs : s.size ≤ maxLen) (ht : t.size ≤ maxLen) (hs2 : s2.size ≤ maxLen) (ht2 : t2.size ≤ maxLen) :
    Calls Tryz.prog 289 #[.agg #[.bool b,.string s,.bool c,.string t],.agg #[.bool b2,.string s2,.bool c2,.string t2],.func (.func 145) #[] #[]] w0 (BinPost (fun x y=>x - y) (.agg #[.bool b,.string s,.bool c,.string t]) (.agg #[.bool b2,.string s2,.bool c2,.string t2]) w0):=by
  have HS:=Lib.hid hs
  have HT:=Lib.hid ht
  have HS2:=Lib.hid hs2
  have HT2:=Lib.hid ht2
  have HW0:=Lib.hid (Two.new w0 #[.bool b,.string s,.bool c,.string t] #[.bool b2,.string s2,.bool c2,.string t2])
  clear hs ht hs2 ht2
  go_enter Tryz.func289,Tryz.ntmps289
  go_wp2_with fail
  refine (May_any b c s t HS.out HT.out).mono ?_
  rintro e w1 ⟨r,rfl,hr,hb⟩
  have HW1:=Lib.hid (HW0.out.on hb)
  have HR:=Lib.hid hr
  clear hb hr
  cases r
  · have hp0:=HW1.out.place.cell 0 _ rfl
    have hp1:=HW1.out.place.cell 1 _ rfl
    have hp2:=HW1.out.place.cell 2 _ rfl
    have hp3:=HW1.out.place.cell 3 _ rfl
    have hf:=HW1.out.place.frozen
    go_wp2
    have hk:=HW1.out.place.put4 (.bool false) (.string ⟨#[]⟩) (.bool false) (.string ⟨#[]⟩)
    have k0:=hk.cell 0 _ rfl
    have k1:=hk.cell 1 _ rfl
    have k2:=hk.cell 2 _ rfl
    have k3:=hk.cell 3 _ rfl
    exact bodyPost_ret (v:=.tuple #[frac0,.int .i64 2]) (by simp [results,Tryz.results289,go_sem,k0,k1,k2,k3,frac0]) rfl ⟨_,_,rfl,.inr ⟨.inl fun h=>Bool.noConfusion (HR.out.2 h),rfl,rfl⟩,below_put4 HW1.out.below (by omega) _ _ _ _⟩
  have hc0:=HW1.out.two.cell 0 (.bool b2) rfl
  have hc1:=HW1.out.two.cell 1 (.string s2) rfl
  have hc2:=HW1.out.two.cell 2 (.bool c2) rfl
  have hc3:=HW1.out.two.cell 3 (.string t2) rfl
  go_wp2_with fail
  refine (May_any b2 c2 s2 t2 HS2.out HT2.out).mono ?_
  rintro e w2 ⟨r,rfl,hr,hb⟩
  have HW2:=Lib.hid (HW1.out.on hb)
  have HR2:=Lib.hid hr
  clear hb hr hc0 hc1 hc2 hc3
  cases r
  · have hp0:=HW2.out.place.cell 0 _ rfl
    have hp1:=HW2.out.place.cell 1 _ rfl
    have hp2:=HW2.out.place.cell 2 _ rfl
    have hp3:=HW2.out.place.cell 3 _ rfl
    have hf:=HW2.out.place.frozen
    go_wp2
    have hk:=HW2.out.place.put4 (.bool false) (.string ⟨#[]⟩) (.bool false) (.string ⟨#[]⟩)
    have k0:=hk.cell 0 _ rfl
    have k1:=hk.cell 1 _ rfl
    have k2:=hk.cell 2 _ rfl
    have k3:=hk.cell 3 _ rfl
    exact bodyPost_ret (v:=.tuple #[frac0,.int .i64 2]) (by simp [results,Tryz.results289,go_sem,k0,k1,k2,k3,frac0]) rfl ⟨_,_,rfl,.inr ⟨.inr fun h=>Bool.noConfusion (HR2.out.2 h),rfl,rfl⟩,below_put4 HW2.out.below (by omega) _ _ _ _⟩
  obtain ⟨x,hx⟩:=parts_of (by first | exact HR.out.1 rfl | exact HR.out.1 trivial)
  obtain ⟨y,hy⟩:=parts_of (by first | exact HR2.out.1 rfl | exact HR2.out.1 trivial)
  have HX:=Lib.hid hx
  have HY:=Lib.hid hy
  clear hx hy HR HR2 HW1 HW0
  go_wp2
  have hok:=(HX.out.fit.sz.sub HY.out.fit.sz).okR (by decide)
  have HOK:=Lib.hid hok
  clear hok
  refine wp_region_ghost 10 (GC w2.heap.size w2 [1,3,5]) (fun γ wq _ wr=>GE w2.heap.size [(1,6)] γ wq wr) (fun i γ wq v=>match i with
      | 0=>v = .func (.func 145) #[] #[]
      | 1=>VP w2.heap.size wq v
      | 2=>v = .agg #[.bool b,.string s,.bool c,.string t]
      | 3=>VQ (x) wq v
      | 4=>v = .agg #[.bool b2,.string s2,.bool c2,.string t2]
      | 5=>VQ (y) wq v
      | 6=>VR w2.heap.size 1 ((fun x y=>x - y) x y) γ wq v
      | 7=>v = .tuple #[ansV ((fun x y=>x - y) x y),.int .i64 (ansK ((fun x y=>x - y) x y))]
      | 8=>v = ansV ((fun x y=>x - y) x y)
      | 9=>v = .int .i64 (ansK ((fun x y=>x - y) x y))
      | _=>True) (by kernel_rfl) (by kernel_rfl) (by kernel_rfl) (GC.start _ (Nat.le_refl _)) ?_ ⟨?_,?_,?_,?_,?_,?_,?_,?_,?_,?_,trivial⟩ ?_
  · intro i γ w1 k xq w2 v hC hC2 hE hk hi hV
    match i with
    | 0=>exact hV
    | 1=>exact VP.stable hV hE
    | 2=>exact hV
    | 3=>exact VQ.stable 3 hV hC hE hi rfl
    | 4=>exact hV
    | 5=>exact VQ.stable 5 hV hC hE hi rfl
    | 6=>exact VR.stable 6 k hV hC hE hk hi rfl
    | 7=>exact hV
    | 8=>exact hV
    | 9=>exact hV
    | _ + 10=>trivial
  · intro a' γ w' hag hC hk hd K hK
    have e2 : a'.tmps.getD 2 undef = .func (.func 145) #[] #[]:=hag 2 rfl
    go_step
    exact hK _ _ (hC.step 0 _ rfl (Below.refl _ _)) (GE.refl _ _ _ _) rfl
  · intro a' γ w' hag hC hk hd K hK
    have hb:=below_new w' (.cells #[.bool false,.slice none 0 0,.bool false,.slice none 0 0] 165)
    have HK:=Lib.hid (hK (.pointer (some ⟨w'.heap.size,0,none⟩)) _ (hC.own 1 _ _ hb (RatAt.new w').slot.lt (.inr (Nat.le_refl _))) (GE.below _ _ hb) ⟨_,rfl,hC.size,(RatAt.new w').slot⟩)
    clear hb hK hC
    go_step
    exact HK.out
  · intro a' γ w' hag hC hk hd K hK
    have e3 : a'.tmps.getD 3 undef = .pointer (some ⟨w0.heap.size,0,none⟩):=hag 3 rfl
    have hT:=HW2.out.on hC.below
    have hc0:=hT.one.cell 0 (.bool b) rfl
    have hc1:=hT.one.cell 1 (.string s) rfl
    have hc2:=hT.one.cell 2 (.bool c) rfl
    have hc3:=hT.one.cell 3 (.string t) rfl
    have HK:=Lib.hid (hK (.agg #[.bool b,.string s,.bool c,.string t]) _ (hC.step 2 _ rfl (Below.refl _ _)) (GE.refl _ _ _ _) rfl)
    clear hK hC hT
    go_step
    exact HK.out
  · intro a' γ w' hag hC hk hd K hK
    have e19 : a'.tmps.getD 19 undef = .agg #[.bool b,.string s,.bool c,.string t]:=hd.1.2
    have hx:=Lib.hid (rat_frac (w:=w') HX.out)
    go_step
    refine hx.out.mono ?_
    rintro e w2 ⟨g,rfl,h3,h1,h2⟩
    exact hK _ _ (hC.own 3 _ _ h2 h1.slot.lt (.inr h3)) (GE.below _ _ h2) ⟨_,rfl,h1⟩
  · intro a' γ w' hag hC hk hd K hK
    have e4 : a'.tmps.getD 4 undef = .pointer (some ⟨w0.heap.size + 1,0,none⟩):=hag 4 rfl
    have hT:=HW2.out.on hC.below
    have hc0:=hT.two.cell 0 (.bool b2) rfl
    have hc1:=hT.two.cell 1 (.string s2) rfl
    have hc2:=hT.two.cell 2 (.bool c2) rfl
    have hc3:=hT.two.cell 3 (.string t2) rfl
    have HK:=Lib.hid (hK (.agg #[.bool b2,.string s2,.bool c2,.string t2]) _ (hC.step 4 _ rfl (Below.refl _ _)) (GE.refl _ _ _ _) rfl)
    clear hK hC hT
    go_step
    exact HK.out
  · intro a' γ w' hag hC hk hd K hK
    have e21 : a'.tmps.getD 21 undef = .agg #[.bool b2,.string s2,.bool c2,.string t2]:=hd.1.2
    have hx:=Lib.hid (rat_frac (w:=w') HY.out)
    go_step
    refine hx.out.mono ?_
    rintro e w2 ⟨g,rfl,h3,h1,h2⟩
    exact hK _ _ (hC.own 5 _ _ h2 h1.slot.lt (.inr h3)) (GE.below _ _ h2) ⟨_,rfl,h1⟩
  · intro a' γ w' hag hC hk hd K hK
    have e17 : a'.tmps.getD 17 undef = .func (.func 145) #[] #[]:=hd.1.2
    have q18 : VP w2.heap.size w' (a'.tmps.getD 18 undef):=hd.2.1.2
    have gg18 : γ 1 = some (a'.tmps.getD 18 undef):=hd.2.1.1
    obtain ⟨g18,e18,hb18,hs18⟩:=q18
    rw [e18] at gg18
    have e18 : a'.tmps.getD 18 undef = .pointer (some ⟨g18,0,none⟩):=e18
    have q20 : VQ (x) w' (a'.tmps.getD 20 undef):=hd.2.2.1.2
    have gg20 : γ 3 = some (a'.tmps.getD 20 undef):=hd.2.2.1.1
    obtain ⟨g20,e20,h20⟩:=q20
    rw [e20] at gg20
    have e20 : a'.tmps.getD 20 undef = .pointer (some ⟨g20,0,none⟩):=e20
    have q22 : VQ (y) w' (a'.tmps.getD 22 undef):=hd.2.2.2.1.2
    have gg22 : γ 5 = some (a'.tmps.getD 22 undef):=hd.2.2.2.1.1
    obtain ⟨g22,e22,h22⟩:=q22
    rw [e22] at gg22
    have e22 : a'.tmps.getD 22 undef = .pointer (some ⟨g22,0,none⟩):=e22
    have hx:=Lib.hid (rSub_any hs18 h20 h22 HX.out.fit.okR HY.out.fit.okR)
    go_step
    refine hx.out.mono ?_
    rintro e w2 ⟨rfl,h1,h2⟩
    exact hK _ _ (hC.step 6 _ rfl (h2.below hb18 hC.size)) (GE.write 1 6 rfl hs18 h2 gg18 hk hb18) ⟨_,rfl,upd_some gg18 hk,hb18,h1⟩
  · intro a' γ w' hag hC hk hd K hK
    have q23 : VR w2.heap.size 1 ((fun x y=>x - y) x y) γ w' (a'.tmps.getD 23 undef):=hd.1.2
    have gg23 : γ 6 = some (a'.tmps.getD 23 undef):=hd.1.1
    obtain ⟨g23,e23,ga23,hb23,h23⟩:=q23
    rw [e23] at gg23
    have e23 : a'.tmps.getD 23 undef = .pointer (some ⟨g23,0,none⟩):=e23
    have hx:=Lib.hid (answer_any h23 HOK.out)
    go_step
    refine hx.out.mono ?_
    rintro e w2 ⟨v,k,rfl,h1,h2⟩
    rw [(ans_eq h1).1,(ans_eq h1).2]
    exact hK _ _ (hC.step 7 _ rfl (h2.mono hC.size)) (GE.below _ _ h2) rfl
  · intro a' γ w' hag hC hk hd K hK
    have e24 : a'.tmps.getD 24 undef = .tuple #[ansV ((fun x y=>x - y) x y),.int .i64 (ansK ((fun x y=>x - y) x y))]:=hd.1.2
    go_step
    exact hK _ _ (hC.step 8 _ rfl (Below.refl _ _)) (GE.refl _ _ _ _) rfl
  · intro a' γ w' hag hC hk hd K hK
    have e24 : a'.tmps.getD 24 undef = .tuple #[ansV ((fun x y=>x - y) x y),.int .i64 (ansK ((fun x y=>x - y) x y))]:=hd.1.2
    go_step
    exact hK _ _ (hC.step 9 _ rfl (Below.refl _ _)) (GE.refl _ _ _ _) rfl
  · intro γ u w' hC hgh hall
    obtain ⟨u0,u1,u2,u3,u4,u5,u6,u7,u8,u9,_⟩:=hall
    have u0 : u 0 = .func (.func 145) #[] #[]:=u0
    obtain ⟨g18,eu1,hb18,hs18⟩:=u1
    have u1 : u 1 = .pointer (some ⟨g18,0,none⟩):=eu1
    have u2 : u 2 = .agg #[.bool b,.string s,.bool c,.string t]:=u2
    have u4 : u 4 = .agg #[.bool b2,.string s2,.bool c2,.string t2]:=u4
    have u7 : u 7 = .tuple #[ansV ((fun x y=>x - y) x y),.int .i64 (ansK ((fun x y=>x - y) x y))]:=u7
    have u8 : u 8 = ansV ((fun x y=>x - y) x y):=u8
    have u9 : u 9 = .int .i64 (ansK ((fun x y=>x - y) x y)):=u9
    simp only [fillR,List.take_succ_cons,List.take_zero,Act.put,List.setIfInBounds_toArray,List.set_cons_succ,List.set_cons_zero,Nat.zero_add,Nat.reduceAdd,u0,u1,u2,u4,u7,u8,u9]
    clear u0 u1 u2 u4 u7 u8 u9
    have HC:=Lib.hid (HW2.out.on hC.below)
    clear hC
    obtain ⟨pb,ps,pc,pt,hv⟩:=(ansV_ans ((fun x y=>x - y) x y)).agg
    have HA:=Lib.hid (ansV_ans ((fun x y=>x - y) x y))
    rw [hv] at HA ⊢
    generalize ansK ((fun x y=>x - y) x y) = k at HA ⊢
    clear hv
    have hp0:=HC.out.place.cell 0 _ rfl
    have hp1:=HC.out.place.cell 1 _ rfl
    have hp2:=HC.out.place.cell 2 _ rfl
    have hp3:=HC.out.place.cell 3 _ rfl
    have hf:=HC.out.place.frozen
    go_wp2
    have hk:=HC.out.place.put4 (.bool pb) (.string ps) (.bool pc) (.string pt)
    have k0:=hk.cell 0 _ rfl
    have k1:=hk.cell 1 _ rfl
    have k2:=hk.cell 2 _ rfl
    have k3:=hk.cell 3 _ rfl
    exact bodyPost_ret (v:=.tuple #[.agg #[.bool pb,.string ps,.bool pc,.string pt],.int .i64 k]) (by simp [results,Tryz.results289,go_sem,k0,k1,k2,k3]) rfl ⟨_,_,rfl,.inl ⟨x,y,HX.out.fit,HY.out.fit,HX.out.val,HY.out.val,HA.out⟩,below_put4 HC.out.below (by omega) _ _ _ _⟩
end Go.Proofs.YtpccljaooghafaaGreat
end
section
namespace Go.Proofs.YtpccljaooghafaaGreat
open Go.RowKit
def SignPost (va : Value) (w : World) (e : Ending) (w' : World) : Prop :=
  ∃ k : Int,e = .returned (.int .i64 k) ∧ ((∃ x,Fit x ∧ va = fracV x ∧ k = x.num.sign) ∨ (¬ IsFrac va ∧ k = 0)) ∧ Below w.heap.size w w'
theorem fracV_num {b c : Bool} {s t : ByteArray} {x : Rat} (h : FracParts b s c t x) : WholeOk b s ∧ numOf b s = x.num:=by
  have h1:=(isFrac_parts h.isFrac).1
  obtain ⟨rfl,rfl,_,_⟩:=agg4 h.val
  exact ⟨h1,numOf_mag _⟩
set_option maxRecDepth 100000 in
theorem FSign_any {w0 : World} (b c : Bool) (s t : ByteArray) (hs : s.size ≤ maxLen) (ht : t.size ≤ maxLen) :
    Calls Tryz.prog 30 #[.agg #[.bool b,.string s,.bool c,.string t]] w0 (SignPost (.agg #[.bool b,.string s,.bool c,.string t]) w0):=by
  have HS:=Lib.hid hs
  have HT:=Lib.hid ht
  have HW0:=Lib.hid (below_new w0 (.cells #[.bool b,.string s,.bool c,.string t] 25))
  have HX0:=Lib.hid (BoxAt.new w0 #[.bool b,.string s,.bool c,.string t] 25)
  clear hs ht
  go_enter Tryz.func30,Tryz.ntmps30
  go_wp2_with fail
  refine (May_any b c s t HS.out HT.out).mono ?_
  rintro e w1 ⟨r,rfl,hr,hb⟩
  have HX1:=Lib.hid (HX0.out.on hb)
  have HW1:=Lib.hid (HW0.out.trans (hb.mono HW0.out.size))
  have HR:=Lib.hid hr
  clear hb hr
  cases r
  · go_wp2
    go_ret
    exact ⟨0,rfl,.inr ⟨fun h=>Bool.noConfusion (HR.out.2 h),rfl⟩,HW1.out⟩
  obtain ⟨x,hx⟩:=parts_of (by first | exact HR.out.1 rfl | exact HR.out.1 trivial)
  have HX:=Lib.hid hx
  have hc0:=HX1.out.cell 0 (.bool b) rfl
  have hc1:=HX1.out.cell 1 (.string s) rfl
  clear hx HR
  go_wp2_with fail
  refine (WSign_any b s HS.out).mono ?_
  rintro e w2 ⟨k,rfl,hk,hb⟩
  have HW2:=Lib.hid (HW1.out.trans (hb.mono HW1.out.size))
  have HK:=Lib.hid hk
  clear hk hb
  go_wp2
  go_ret
  refine ⟨k,rfl,.inl ⟨x,HX.out.fit,HX.out.val,?_⟩,HW2.out⟩
  obtain ⟨h1,h2⟩:=fracV_num HX.out
  rcases HK.out with h | h
  · rw [h.2,h2]
  · exact absurd h1 h.1
set_option maxHeartbeats 1600000 in
set_option maxRecDepth 100000 in
theorem FAdd_any {w0 : World} (b c b2 c2 : Bool) (s t s2 t2 : ByteArray) (hs : s.size ≤ maxLen) (ht : t.size ≤ maxLen) (hs2 : s2.size ≤ maxLen) (ht2 : t2.size ≤ maxLen) :
    Calls Tryz.prog 123 #[.agg #[.bool b,.string s,.bool c,.string t],.agg #[.bool b2,.string s2,.bool c2,.string t2]] w0 (BinPost (fun x y=>x + y) (.agg #[.bool b,.string s,.bool c,.string t]) (.agg #[.bool b2,.string s2,.bool c2,.string t2]) w0):=by
  have HS:=Lib.hid hs
  have HT:=Lib.hid ht
  have HS2:=Lib.hid hs2
  have HT2:=Lib.hid ht2
  have HW0:=Lib.hid (Two.new w0 #[.bool b,.string s,.bool c,.string t] #[.bool b2,.string s2,.bool c2,.string t2])
  clear hs ht hs2 ht2
  go_enter Tryz.func123,Tryz.ntmps123
  go_wp2_with fail
  refine (both_add b c b2 c2 s t s2 t2 HS.out HT.out HS2.out HT2.out).mono ?_
  rintro e w1 ⟨v,k,rfl,ha,hb⟩
  obtain ⟨pb,ps,pc,pt,rfl⟩:=ha.agg
  have HA:=Lib.hid ha
  have HW1:=Lib.hid (HW0.out.on hb)
  clear ha hb
  have hp0:=HW1.out.place.cell 0 _ rfl
  have hp1:=HW1.out.place.cell 1 _ rfl
  have hp2:=HW1.out.place.cell 2 _ rfl
  have hp3:=HW1.out.place.cell 3 _ rfl
  have hf:=HW1.out.place.frozen
  go_wp2
  have hk:=HW1.out.place.put4 (.bool pb) (.string ps) (.bool pc) (.string pt)
  have k0:=hk.cell 0 _ rfl
  have k1:=hk.cell 1 _ rfl
  have k2:=hk.cell 2 _ rfl
  have k3:=hk.cell 3 _ rfl
  exact bodyPost_ret (v:=.tuple #[.agg #[.bool pb,.string ps,.bool pc,.string pt],.int .i64 k]) (by simp [results,Tryz.results123,go_sem,k0,k1,k2,k3]) rfl ⟨_,_,rfl,HA.out,below_put4 HW1.out.below (by omega) _ _ _ _⟩
set_option maxHeartbeats 1600000 in
set_option maxRecDepth 100000 in
theorem FSub_any {w0 : World} (b c b2 c2 : Bool) (s t s2 t2 : ByteArray) (hs : s.size ≤ maxLen) (ht : t.size ≤ maxLen) (hs2 : s2.size ≤ maxLen) (ht2 : t2.size ≤ maxLen) :
    Calls Tryz.prog 139 #[.agg #[.bool b,.string s,.bool c,.string t],.agg #[.bool b2,.string s2,.bool c2,.string t2]] w0 (BinPost (fun x y=>x - y) (.agg #[.bool b,.string s,.bool c,.string t]) (.agg #[.bool b2,.string s2,.bool c2,.string t2]) w0):=by
  have HS:=Lib.hid hs
  have HT:=Lib.hid ht
  have HS2:=Lib.hid hs2
  have HT2:=Lib.hid ht2
  have HW0:=Lib.hid (Two.new w0 #[.bool b,.string s,.bool c,.string t] #[.bool b2,.string s2,.bool c2,.string t2])
  clear hs ht hs2 ht2
  go_enter Tryz.func139,Tryz.ntmps139
  go_wp2_with fail
  refine (both_sub b c b2 c2 s t s2 t2 HS.out HT.out HS2.out HT2.out).mono ?_
  rintro e w1 ⟨v,k,rfl,ha,hb⟩
  obtain ⟨pb,ps,pc,pt,rfl⟩:=ha.agg
  have HA:=Lib.hid ha
  have HW1:=Lib.hid (HW0.out.on hb)
  clear ha hb
  have hp0:=HW1.out.place.cell 0 _ rfl
  have hp1:=HW1.out.place.cell 1 _ rfl
  have hp2:=HW1.out.place.cell 2 _ rfl
  have hp3:=HW1.out.place.cell 3 _ rfl
  have hf:=HW1.out.place.frozen
  go_wp2
  have hk:=HW1.out.place.put4 (.bool pb) (.string ps) (.bool pc) (.string pt)
  have k0:=hk.cell 0 _ rfl
  have k1:=hk.cell 1 _ rfl
  have k2:=hk.cell 2 _ rfl
  have k3:=hk.cell 3 _ rfl
  exact bodyPost_ret (v:=.tuple #[.agg #[.bool pb,.string ps,.bool pc,.string pt],.int .i64 k]) (by simp [results,Tryz.results139,go_sem,k0,k1,k2,k3]) rfl ⟨_,_,rfl,HA.out,below_put4 HW1.out.below (by omega) _ _ _ _⟩
theorem fracV_inj {x y : Rat} (h : fracV x = fracV y) : x = y:=by
  obtain ⟨h1,h2,_,h4⟩:=agg4 h
  have e1 : x.num = y.num:=sg_inj h1 (mag_inj h2)
  have e2 : x.den = y.den:=mag_inj h4
  exact Rat.ext e1 e2
end Go.Proofs.YtpccljaooghafaaGreat
end
section
namespace Go.Proofs.YtpccljaooghafaaGreat
open Go.RowKit
structure Uno (w0 w : World) : Prop where
  below : Below w0.heap.size w0 w
  place : BoxAt w w0.heap.size #[.bool false,.string ⟨#[]⟩,.bool false,.string ⟨#[]⟩] 25
theorem Uno.new (w0 : World) : Uno w0 (w0.alloc (.cells #[.bool false,.string ⟨#[]⟩,.bool false,.string ⟨#[]⟩] 25)):=⟨below_new _ _,BoxAt.new _ _ _⟩
theorem Uno.on {w0 w w' : World} (h : Uno w0 w) (k : Below w.heap.size w w') : Uno w0 w':=⟨h.below.trans (k.mono h.below.size),h.place.on k⟩
def SmallAns (n m : Int) (v : Value) (k : Int) : Prop:=(m = 0 ∧ v = frac0 ∧ k = 5) ∨ (m ≠ 0 ∧ Ans (Rat.divInt n m) v k)
theorem sz_i64 {n : Int} (h : -9223372036854775808 ≤ n ∧ n ≤ 9223372036854775807) : sz n ≤ 8:=by
  rw [sz_le]
  have : n.natAbs ≤ 9223372036854775808:=by omega
  exact Nat.lt_of_le_of_lt this (by decide)
theorem okn_i64 {n : Int} (h : -9223372036854775808 ≤ n ∧ n ≤ 9223372036854775807) : Okn n:=okn_size (Nat.le_trans (sz_i64 h) (by decide))
set_option maxHeartbeats 1600000 in
set_option maxRecDepth 100000 in
theorem Small_any {w0 : World} {n m : Int} (hn : -9223372036854775808 ≤ n ∧ n ≤ 9223372036854775807) (hm : -9223372036854775808 ≤ m ∧ m ≤ 9223372036854775807) :
    Calls Tryz.prog 26 #[.int .i64 n,.int .i64 m] w0 fun e w'=>∃ v k,e = .returned (.tuple #[v,.int .i64 k]) ∧ SmallAns n m v k ∧ Below w0.heap.size w0 w':=by
  have HN:=Lib.hid hn
  have HM:=Lib.hid hm
  have HW0:=Lib.hid (Uno.new w0)
  clear hn hm
  have HP0:=Lib.hid HW0.out.place
  by_cases h0 : m = 0
  · subst h0
    go_enter Tryz.func26,Tryz.ntmps26
    go_wp2
    have hk:=HP0.out.put4 (.bool false) (.string ⟨#[]⟩) (.bool false) (.string ⟨#[]⟩)
    exact bodyPost_ret (v:=.tuple #[frac0,.int .i64 5]) (by simp [results,Tryz.results26,go_sem,frac0]) rfl ⟨_,_,rfl,.inl ⟨rfl,rfl,rfl⟩,HW0.out.below⟩
  · have hmm : (m == 0) = false:=by rw [beq_eq_false_iff_ne]; exact h0
    have H0:=Lib.hid h0
    have HA:=Lib.hid (below_new (w0.alloc (.cells #[.bool false,.string ⟨#[]⟩,.bool false,.string ⟨#[]⟩] 25)) (.cells #[.bool false,.slice none 0 0,.bool false,.slice none 0 0] 165))
    have HW1:=Lib.hid (HW0.out.on HA.out)
    have HR1:=Lib.hid (RatAt.new (w0.alloc (.cells #[.bool false,.string ⟨#[]⟩,.bool false,.string ⟨#[]⟩] 25))).slot
    rw [size_alloc] at HR1
    clear h0
    go_enter Tryz.func26,Tryz.ntmps26
    go_wp2_with fail
    refine (NewInt_any HN.out).mono ?_
    rintro e w2 ⟨g1,rfl,_,h1,hb⟩
    have HW2:=Lib.hid (HW1.out.on hb)
    have HR2:=Lib.hid (HR1.out.on hb)
    have H1:=Lib.hid h1
    clear h1 hb
    go_wp2_with fail
    refine (NewInt_any HM.out).mono ?_
    rintro e w3 ⟨g2,rfl,_,h1,hb⟩
    have HW3:=Lib.hid (HW2.out.on hb)
    have HR3:=Lib.hid (HR2.out.on hb)
    have H13:=Lib.hid (H1.out.on hb)
    have H2:=Lib.hid h1
    clear h1 hb
    go_wp2_with fail
    refine (SetFrac_any HR3.out H13.out H2.out H0.out (okn_i64 HN.out) (okn_i64 HM.out)).mono ?_
    rintro e w4 ⟨rfl,h1,h2⟩
    have HB4:=Lib.hid (h2.below (B:=w0.heap.size + 1) (Nat.le_refl _) HW3.out.place.lt)
    have HP4 : Hid (BoxAt w4 w0.heap.size #[.bool false,.string ⟨#[]⟩,.bool false,.string ⟨#[]⟩] 25):=by
      have:=HW3.out.place
      unfold BoxAt at this
      unfold Hid BoxAt
      rw [HB4.out.block _ (by omega)]
      exact this
    have HW4 : Hid (Uno w0 w4):=⟨HW3.out.below.trans (HB4.out.mono (by omega)),HP4.out⟩
    have HQ:=Lib.hid h1
    clear h1 h2
    go_wp2_with fail
    refine (answer_any HQ.out ((sz_divInt H0.out (sz_i64 HN.out) (sz_i64 HM.out)).okR (by decide))).mono ?_
    rintro e w5 ⟨v,k,rfl,ha,hb⟩
    obtain ⟨pb,ps,pc,pt,rfl⟩:=ha.agg
    have HA5:=Lib.hid ha
    have HW5:=Lib.hid (HW4.out.on hb)
    have HP5:=Lib.hid HW5.out.place
    clear ha hb
    have hp0:=HP5.out.cell 0 _ rfl
    have hp1:=HP5.out.cell 1 _ rfl
    have hp2:=HP5.out.cell 2 _ rfl
    have hp3:=HP5.out.cell 3 _ rfl
    have hf:=HP5.out.frozen
    go_wp2
    have hk:=HP5.out.put4 (.bool pb) (.string ps) (.bool pc) (.string pt)
    have k0:=hk.cell 0 _ rfl
    have k1:=hk.cell 1 _ rfl
    have k2:=hk.cell 2 _ rfl
    have k3:=hk.cell 3 _ rfl
    exact bodyPost_ret (v:=.tuple #[.agg #[.bool pb,.string ps,.bool pc,.string pt],.int .i64 k]) (by simp [results,Tryz.results26,go_sem,k0,k1,k2,k3]) rfl ⟨_,_,rfl,.inr ⟨H0.out,HA5.out⟩,below_put4 HW5.out.below (Nat.le_refl _) _ _ _ _⟩
set_option maxRecDepth 100000 in
theorem floor_any {w : World} {b o : Nat} {q : Rat} (hx : RatAt w b o q) (hq : OkR q) :
    Calls Tryz.prog 142 #[.pointer (some ⟨b,o,none⟩)] w fun e w'=>∃ g,e = .returned (.pointer (some ⟨g,0,none⟩)) ∧ w.heap.size ≤ g ∧ IntAt w' g 0 (q.num / (q.den : Int)) ∧ Below w.heap.size w w':=by
  have HA:=Lib.hid (below_new w (.cells #[.bool false,.slice none 0 0] 163))
  have HX:=Lib.hid (hx.on HA.out)
  have HS:=Lib.hid (IntAt.new w).slot
  have HQ:=Lib.hid hq
  clear hx hq
  go_enter Tryz.func142,Tryz.ntmps142
  go_wp2_with fail
  refine (rNum_any HX.out).mono ?_
  rintro e w1 ⟨g1,rfl,_,h1,hb⟩
  have HX1:=Lib.hid (HX.out.on hb)
  have HS1:=Lib.hid (HS.out.on hb)
  have HB1:=Lib.hid (HA.out.trans (hb.mono HA.out.size))
  have H1:=Lib.hid h1
  clear h1 hb
  go_wp2_with fail
  refine (rDenom_any HX1.out).mono ?_
  rintro e w2 ⟨g2,rfl,_,h1,hb⟩
  have HS2:=Lib.hid (HS1.out.on hb)
  have HB2:=Lib.hid (HB1.out.trans (hb.mono HB1.out.size))
  have H12:=Lib.hid (H1.out.on hb)
  have H2:=Lib.hid h1
  clear h1 hb
  go_wp2_with fail
  refine (Div_any HS2.out H12.out H2.out (den_ne q) HQ.out.num HQ.out.den).mono ?_
  rintro e w3 ⟨rfl,h1,h2⟩
  have H3:=Lib.hid h1
  have HB3:=Lib.hid (HB2.out.trans (h2.below (Nat.le_refl _) HB2.out.size))
  clear h1 h2
  go_wp2
  go_ret
  exact ⟨_,rfl,Nat.le_refl _,H3.out,HB3.out⟩
end Go.Proofs.YtpccljaooghafaaGreat
end
section
namespace Go.Proofs.YtpccljaooghafaaGreat
open Go.RowKit
structure FW (w0 w : World) (v1 : Array Value) : Prop where
  below : Below w0.heap.size w0 w
  one : BoxAt w w0.heap.size v1 25
  place : BoxAt w (w0.heap.size + 1) #[.bool false,.string ⟨#[]⟩] 23
theorem FW.new (w0 : World) (v1 : Array Value) : FW w0 ((w0.alloc (.cells v1 25)).alloc (.cells #[.bool false,.string ⟨#[]⟩] 23)) v1:=by
  have b1:=below_new w0 (.cells v1 25)
  have b2:=below_new (w0.alloc (.cells v1 25)) (.cells #[.bool false,.string ⟨#[]⟩] 23)
  exact ⟨b1.trans (b2.mono (by simp)),(BoxAt.new w0 _ _).on b2,BoxAt.new_at _ _ (by simp)⟩
theorem FW.on {w0 w w' : World} {v1 : Array Value} (h : FW w0 w v1) (k : Below w.heap.size w w') : FW w0 w' v1 :=
  ⟨h.below.trans (k.mono h.below.size),h.one.on k,h.place.on k⟩
def flQ (q : Rat) : Int:=q.num / (q.den : Int)
def nearQ (x : Rat) : Int:=if ((flQ (x + Rat.divInt 1 2) : Int) : Rat) - x = Rat.divInt 1 2 ∧ (flQ (x + Rat.divInt 1 2)).natAbs % 2 = 1 then flQ (x + Rat.divInt 1 2) - 1 else flQ (x + Rat.divInt 1 2)
def NearAns (va v : Value) (k : Int) : Prop:=(∃ x,Fit x ∧ va = fracV x ∧ v = wholeV (nearQ x) ∧ k = 0) ∨ (¬ IsFrac va ∧ v = .agg #[.bool false,.string ⟨#[]⟩] ∧ k = 2)
theorem cmpQ_zero {x y : Rat} : cmpQ x y = 0 ↔ x = y:=by
  unfold cmpQ
  constructor
  · intro h
    split at h
    · cases h
    · split at h
      · cases h
      · rename_i h1 h2
        exact Rat.le_antisymm (Rat.not_lt.1 h2) (Rat.not_lt.1 h1)
  · rintro rfl
    rw [if_neg (Rat.lt_irrefl),if_neg (Rat.lt_irrefl)]
theorem sz_flQ {q : Rat} {k : Nat} (h : Sz k q) : sz (flQ q) ≤ k:=by
  have h1:=h.1
  rw [sz_le] at *
  exact Nat.lt_of_le_of_lt (Int.natAbs_ediv_le_natAbs _ _) h1
theorem sz_int {n : Int} {k : Nat} (h : sz n ≤ k) (hk : 1 ≤ k) : Sz k (n : Rat):=by
  refine ⟨by rw [Rat.num_intCast]; exact h,?_⟩
  rw [Rat.den_intCast]
  exact Nat.le_trans (mag_size_le.2 (by decide : (1 : Int).natAbs < 256 ^ 1)) hk
theorem sz_half : Sz 1 (Rat.divInt 1 2):=sz_divInt (by decide) (sz_le.2 (by decide)) (sz_le.2 (by decide))
theorem FW.keep {w0 w w' : World} {v1 : Array Value} {g n : Nat} (h : FW w0 w v1) (hg : w0.heap.size + 2 ≤ g) (k : Touch w w' g 0 n) : FW w0 w' v1:=by
  have key : ∀ i cs T,i < w0.heap.size + 2 → BoxAt w i cs T → BoxAt w' i cs T:=by
    intro i cs T hi hb
    unfold BoxAt
    rw [k.block i hb.lt (by omega)]
    exact hb
  have hl:=h.place.lt
  exact ⟨h.below.trans (k.below (by omega) (by omega)),key _ _ _ (by omega) h.one,key _ _ _ (by omega) h.place⟩
set_option maxHeartbeats 3200000 in
set_option maxRecDepth 100000 in
theorem Nearest_any {w0 : World} (b c : Bool) (s t : ByteArray) (hs : s.size ≤ maxLen) (ht : t.size ≤ maxLen) :
    Calls Tryz.prog 24 #[.agg #[.bool b,.string s,.bool c,.string t]] w0 fun e w'=>∃ v k,e = .returned (.tuple #[v,.int .i64 k]) ∧ NearAns (.agg #[.bool b,.string s,.bool c,.string t]) v k ∧ Below w0.heap.size w0 w':=by
  have HS:=Lib.hid hs
  have HT:=Lib.hid ht
  have HW0:=Lib.hid (FW.new w0 #[.bool b,.string s,.bool c,.string t])
  clear hs ht
  go_enter Tryz.func24,Tryz.ntmps24
  go_wp2_with fail
  refine (May_any b c s t HS.out HT.out).mono ?_
  rintro e w1 ⟨r,rfl,hr,hb⟩
  have HW1:=Lib.hid (HW0.out.on hb)
  have HR:=Lib.hid hr
  clear hb hr
  cases r
  · have HP:=Lib.hid HW1.out.place
    have hq0:=HP.out.cell 0 _ rfl
    have hq1:=HP.out.cell 1 _ rfl
    have hf:=HP.out.frozen
    go_wp2
    have hk:=(HP.out.set 0 (.bool false)).set 1 (.string ⟨#[]⟩)
    have k0:=hk.cell 0 _ rfl
    have k1:=hk.cell 1 _ rfl
    exact bodyPost_ret (v:=.tuple #[.agg #[.bool false,.string ⟨#[]⟩],.int .i64 2]) (by simp [results,Tryz.results24,go_sem,k0,k1]) rfl ⟨_,_,rfl,.inr ⟨fun h=>Bool.noConfusion (HR.out.2 h),rfl,rfl⟩,below_put2 HW1.out.below (by omega) _ _⟩
  obtain ⟨x,hx⟩:=parts_of (by first | exact HR.out.1 rfl | exact HR.out.1 trivial)
  have HX:=Lib.hid hx
  have hc0:=HW1.out.one.cell 0 (.bool b) rfl
  have hc1:=HW1.out.one.cell 1 (.string s) rfl
  have hc2:=HW1.out.one.cell 2 (.bool c) rfl
  have hc3:=HW1.out.one.cell 3 (.string t) rfl
  clear hx HR
  go_wp2_with fail
  refine (rat_frac HX.out).mono ?_
  rintro e w2 ⟨gr,rfl,_,h1,hb⟩
  have HW2:=Lib.hid (HW1.out.on hb)
  have HRR2:=Lib.hid h1
  clear h1 hb hc0 hc1 hc2 hc3
  go_wp2_with fail
  refine (NewRat_any (by decide) (by decide) (by decide)).mono ?_
  rintro e w3 ⟨gh,rfl,_,h1,hb⟩
  have HW3:=Lib.hid (HW2.out.on hb)
  have HRR3:=Lib.hid (HRR2.out.on hb)
  have HH3:=Lib.hid h1
  clear h1 hb
  obtain ⟨hf,hhf⟩ : ∃ hf,hf = Rat.divInt 1 2:=⟨_,rfl⟩
  have HHF:=Lib.hid hhf
  rw [← hhf] at HH3
  clear hhf
  have KX : Hid (Sz 1024 x):=HX.out.fit.sz
  have KH : Hid (Sz 1 hf):=by rw [HHF.out]; exact sz_half
  have KS : Hid (Sz 1026 (x + hf)):=KX.out.add KH.out
  have ha:=below_new w3 (.cells #[.bool false,.slice none 0 0,.bool false,.slice none 0 0] 165)
  have HZ:=Lib.hid (RatAt.new w3).slot
  have HA3:=Lib.hid ha
  have hr4:=HRR3.out.on ha
  have hh4:=HH3.out.on ha
  clear ha
  go_wp2_with fail
  refine (rAdd_any HZ.out hr4 hh4 (KX.out.okR (by decide)) (KH.out.okR (by decide))).mono ?_
  rintro e w4 ⟨rfl,h1,h2⟩
  have hb:=HA3.out.trans (h2.below (Nat.le_refl _) HA3.out.size)
  have HW4:=Lib.hid (HW3.out.on hb)
  have HRR4:=Lib.hid (HRR3.out.on hb)
  have HH4:=Lib.hid (HH3.out.on hb)
  have HS4:=Lib.hid h1
  clear h1 h2 hb hr4 hh4 HZ HA3
  go_wp2_with fail
  refine (floor_any HS4.out (KS.out.okR (by decide))).mono ?_
  rintro e w5 ⟨gn,rfl,hgn,h1,hb⟩
  have HNOT : Hid (w0.heap.size + 2 ≤ gn):=Nat.le_trans HW4.out.place.lt hgn
  have HW5:=Lib.hid (HW4.out.on hb)
  have HRR5:=Lib.hid (HRR4.out.on hb)
  have HH5:=Lib.hid (HH4.out.on hb)
  obtain ⟨n,hn⟩ : ∃ n,n = flQ (x + hf):=⟨_,rfl⟩
  have HN5 : Hid (IntAt w5 gn 0 n):=by rw [hn]; exact h1
  have KN : Hid (sz n ≤ 1026):=by rw [hn]; exact sz_flQ KS.out
  have HN:=Lib.hid hn
  clear h1 hb hn
  have ha:=below_new w5 (.cells #[.bool false,.slice none 0 0,.bool false,.slice none 0 0] 165)
  have hz:=(RatAt.new w5).slot
  have hb2:=below_new (w5.alloc (.cells #[.bool false,.slice none 0 0,.bool false,.slice none 0 0] 165)) (.cells #[.bool false,.slice none 0 0,.bool false,.slice none 0 0] 165)
  have hz2:=(RatAt.new (w5.alloc (.cells #[.bool false,.slice none 0 0,.bool false,.slice none 0 0] 165))).slot
  rw [size_alloc] at hz2
  have HA:=Lib.hid (ha.trans (hb2.mono ha.size))
  have HZ:=Lib.hid (hz.on hb2)
  have HZ2:=Lib.hid hz2
  have hn6:=HN5.out.on HA.out
  have hlt:=HN5.out.lt
  clear ha hz hb2 hz2
  go_wp2_with fail
  refine (SetInt_any HZ2.out hn6 (by omega)).mono ?_
  rintro e w6 ⟨rfl,h1,h2⟩
  have HT6:=Lib.hid (h2.below (B:=w5.heap.size + 1) (Nat.le_refl _) (by have:=HZ.out.lt; omega))
  have hb6:=HA.out.trans (HT6.out.mono (by omega))
  have HZ6:=Lib.hid (HZ.out.below HT6.out (by omega))
  have HW6:=Lib.hid (HW5.out.on hb6)
  have HRR6:=Lib.hid (HRR5.out.on hb6)
  have HH6:=Lib.hid (HH5.out.on hb6)
  have HN6:=Lib.hid (HN5.out.on hb6)
  have HNR:=Lib.hid h1
  have HB6:=Lib.hid hb6
  have KNR : Hid (Sz 1026 (n : Rat)):=sz_int KN.out (by decide)
  clear h1 h2 hb6 hn6 HT6 HZ HZ2 HA
  go_wp2_with fail
  refine (rSub_any HZ6.out HNR.out HRR6.out (KNR.out.okR (by decide)) (KX.out.okR (by decide))).mono ?_
  rintro e w7 ⟨rfl,h1,h2⟩
  have hb7:=HB6.out.trans (h2.below (Nat.le_refl _) HB6.out.size)
  have HW7:=Lib.hid (HW5.out.on hb7)
  have HH7:=Lib.hid (HH5.out.on hb7)
  have HN7:=Lib.hid (HN5.out.on hb7)
  have HO7:=Lib.hid h1
  have KO : Hid (Sz 2051 ((n : Rat) - x)):=KNR.out.sub KX.out
  clear h1 h2 hb7 HNR HZ6 HB6
  go_wp2_with fail
  refine (rCmp_any HO7.out HH7.out (KO.out.okR (by decide)) (KH.out.okR (by decide))).mono ?_
  rintro e w8 ⟨rfl,hb⟩
  have HW8:=Lib.hid (HW7.out.on hb)
  have HN8:=Lib.hid (HN7.out.on hb)
  have KN2 : Hid (Okn n):=okn_size (Nat.le_trans KN.out (by decide))
  clear hb
  obtain ⟨kc,hkc⟩ : ∃ kc,kc = cmpQ ((n : Rat) - x) hf:=⟨_,rfl⟩
  rw [← hkc]
  have HKC:=Lib.hid hkc
  clear hkc
  by_cases hc : kc = 0
  · subst hc
    have HOE : Hid ((n : Rat) - x = hf):=cmpQ_zero.1 HKC.out.symm
    go_wp2_with fail
    refine (Bit_any HN8.out 0 (by decide)).mono ?_
    rintro e w9 ⟨rfl,hb⟩
    have HW9:=Lib.hid (HW8.out.on hb)
    have HN9:=Lib.hid (HN8.out.on hb)
    clear hb
    rw [Nat.pow_zero,Nat.div_one]
    by_cases hp : n.natAbs % 2 = 1
    · have HP:=Lib.hid hp
      have HNQ : Hid (nearQ x = n - 1):=by
        unfold Hid nearQ
        rw [← HHF.out,← HN.out,if_pos ⟨HOE.out,HP.out⟩]
      rw [hp]
      clear hp
      go_wp2_with fail
      refine (NewInt_any (n:=1) (by decide)).mono ?_
      rintro e w10 ⟨g1,rfl,hg1,h1,hb⟩
      have HW10:=Lib.hid (HW9.out.on hb)
      have HN10:=Lib.hid (HN9.out.on hb)
      have H1:=Lib.hid h1
      clear h1 hb
      go_wp2_with fail
      refine (Sub_any HN10.out.slot HN10.out H1.out KN2.out (okn_i64 (by decide))).mono ?_
      rintro e w11 ⟨rfl,h1,h2⟩
      have HN11:=Lib.hid h1
      have HW11 : Hid (FW w0 w11 #[.bool b,.string s,.bool c,.string t]):=HW10.out.keep HNOT.out h2
      clear h1 h2
      go_wp2_with fail
      refine (back_agg HN11.out (okn_size (Nat.le_trans (sz_sub KN.out (Nat.le_trans (sz_i64 (by decide)) (by decide))) (by decide)))).mono ?_
      rintro e w12 ⟨p1,s1,rfl,hp1,hs1,hb⟩
      have HW12:=Lib.hid (HW11.out.on hb)
      have HP12:=Lib.hid HW12.out.place
      clear hb
      have hq0:=HP12.out.cell 0 _ rfl
      have hq1:=HP12.out.cell 1 _ rfl
      have hf:=HP12.out.frozen
      go_wp2
      have hk:=(HP12.out.set 0 (.bool p1)).set 1 (.string s1)
      have k0:=hk.cell 0 _ rfl
      have k1:=hk.cell 1 _ rfl
      exact bodyPost_ret (v:=.tuple #[.agg #[.bool p1,.string s1],.int .i64 0]) (by simp [results,Tryz.results24,go_sem,k0,k1]) rfl ⟨_,_,rfl,.inl ⟨x,HX.out.fit,HX.out.val,by rw [HNQ.out,hp1.out,hs1.out]; rfl,rfl⟩,below_put2 HW12.out.below (by omega) _ _⟩
    · have HP:=Lib.hid hp
      have hp0 : n.natAbs % 2 = 0:=by omega
      have HNQ : Hid (nearQ x = n):=by
        unfold Hid nearQ
        rw [← HHF.out,← HN.out,if_neg (fun h=>HP.out h.2)]
      rw [hp0]
      clear hp hp0
      go_wp2_with fail
      refine (back_agg HN9.out KN2.out).mono ?_
      rintro e w12 ⟨p1,s1,rfl,hp1,hs1,hb⟩
      have HW12:=Lib.hid (HW9.out.on hb)
      have HP12:=Lib.hid HW12.out.place
      clear hb
      have hq0:=HP12.out.cell 0 _ rfl
      have hq1:=HP12.out.cell 1 _ rfl
      have hf:=HP12.out.frozen
      go_wp2
      have hk:=(HP12.out.set 0 (.bool p1)).set 1 (.string s1)
      have k0:=hk.cell 0 _ rfl
      have k1:=hk.cell 1 _ rfl
      exact bodyPost_ret (v:=.tuple #[.agg #[.bool p1,.string s1],.int .i64 0]) (by simp [results,Tryz.results24,go_sem,k0,k1]) rfl ⟨_,_,rfl,.inl ⟨x,HX.out.fit,HX.out.val,by rw [HNQ.out,hp1.out,hs1.out]; rfl,rfl⟩,below_put2 HW12.out.below (by omega) _ _⟩
  · have hkk : (kc == 0) = false:=by rw [beq_eq_false_iff_ne]; exact hc
    have HNE : Hid (¬ (n : Rat) - x = hf):=fun e=>hc (by rw [HKC.out]; exact cmpQ_zero.2 e)
    have HNQ : Hid (nearQ x = n):=by
      unfold Hid nearQ
      rw [← HHF.out,← HN.out,if_neg (fun h=>HNE.out h.1)]
    clear hc
    go_wp2_with fail
    refine (back_agg HN8.out KN2.out).mono ?_
    rintro e w12 ⟨p1,s1,rfl,hp1,hs1,hb⟩
    have HW12:=Lib.hid (HW8.out.on hb)
    have HP12:=Lib.hid HW12.out.place
    clear hb
    have hq0:=HP12.out.cell 0 _ rfl
    have hq1:=HP12.out.cell 1 _ rfl
    have hf:=HP12.out.frozen
    go_wp2
    have hk:=(HP12.out.set 0 (.bool p1)).set 1 (.string s1)
    have k0:=hk.cell 0 _ rfl
    have k1:=hk.cell 1 _ rfl
    exact bodyPost_ret (v:=.tuple #[.agg #[.bool p1,.string s1],.int .i64 0]) (by simp [results,Tryz.results24,go_sem,k0,k1]) rfl ⟨_,_,rfl,.inl ⟨x,HX.out.fit,HX.out.val,by rw [HNQ.out,hp1.out,hs1.out]; rfl,rfl⟩,below_put2 HW12.out.below (by omega) _ _⟩
end Go.Proofs.YtpccljaooghafaaGreat
end
section
namespace Go.Proofs.YtpccljaooghafaaGreat
open Go.RowKit
set_option maxHeartbeats 1600000 in
set_option maxRecDepth 100000 in
theorem WText_any {w0 : World} (b : Bool) (s : ByteArray) (hs : s.size ≤ 4294967296) :
    Calls Tryz.prog 290 #[.agg #[.bool b,.string s]] w0 fun e w'=>∃ u k,e = .returned (.tuple #[.string u,.int .i64 k]) ∧ (WholeOk b s ∧ u = textN (numOf b s) ∧ k = 0 ∨ ¬ WholeOk b s ∧ u = ⟨#[]⟩ ∧ k = 2) ∧ Below w0.heap.size w0 w':=by
  have HS:=Lib.hid hs
  have h1:=below_new w0 (.cells #[.bool b,.string s] 23)
  have h2:=below_new (w0.alloc (.cells #[.bool b,.string s] 23)) (.cells #[.bool b,.string s] 23)
  have HB:=Lib.hid (h1.trans (h2.mono h1.size))
  have HX:=Lib.hid (BoxAt.new_at (w:=w0.alloc (.cells #[.bool b,.string s] 23)) #[.bool b,.string s] 23 (size_alloc w0 _).symm)
  clear hs h1 h2
  go_enter Tryz.func290,Tryz.ntmps290
  go_wp2_with fail
  refine (of_one b s HS.out HX.out).mono ?_
  rintro e w1 ⟨h,hb⟩
  have HB1:=Lib.hid (HB.out.trans (hb.mono HB.out.size))
  clear hb
  rcases h with ⟨ho,g,cap,p,rfl,hc,hi⟩ | ⟨ho,rfl⟩
  · have HO:=Lib.hid ho
    have HI:=Lib.hid hi
    have KT : Hid (Okt (numOf b s)):=by
      have h3 : (mag (numOf b s).natAbs).size ≤ 16384:=by rw [(numOf_ok ho).2.1]; exact ho.2
      have:=wl_size h3
      unfold Hid Okt
      omega
    clear ho hi
    go_wp2_with fail
    refine (String_any HI.out KT.out).mono ?_
    rintro e w2 ⟨rfl,hb⟩
    have HB2:=Lib.hid (HB1.out.trans (hb.mono HB1.out.size))
    clear hb hc
    go_wp2
    go_ret2
    exact ⟨_,_,rfl,.inl ⟨HO.out,rfl,rfl⟩,HB2.out⟩
  · have HO:=Lib.hid ho
    clear ho
    go_wp2
    go_ret2
    exact ⟨_,_,rfl,.inr ⟨HO.out,rfl,rfl⟩,HB1.out⟩
theorem textN_len (n : Int) : (textN n).size ≤ 32 * (dig n.natAbs).length + 1:=by
  rw [textN_size]
  unfold txt
  have:=dd_len_words n.natAbs
  split
  · simp
  · rw [List.length_reverse,List.length_append]
    split <;> simp <;> omega
theorem textN_small {n : Int} (h : (mag n.natAbs).size ≤ 16384) : (textN n).size ≤ 200000:=by
  have h1:=textN_len n
  have h2:=wl_size h
  omega
def textQ (x : Rat) : ByteArray:=if x.den = 1 then textN x.num else textN x.num ++ (⟨#[47]⟩ ++ textN (x.den : Int))
def TextAns (va : Value) (u : ByteArray) (k : Int) : Prop:=(∃ x,Fit x ∧ va = fracV x ∧ u = textQ x ∧ k = 0) ∨ (¬ IsFrac va ∧ u = ⟨#[]⟩ ∧ k = 2)
theorem parts_den {b c : Bool} {s t : ByteArray} {x : Rat} (h : FracParts b s c t x) : c = false ∧ t = mag x.den ∧ WholeOk false t ∧ numOf false t = (x.den : Int):=by
  have h2:=(isFrac_parts h.isFrac).2.1
  obtain ⟨rfl,rfl,rfl,rfl⟩:=agg4 h.val
  refine ⟨rfl,rfl,h2,?_⟩
  have:=numOf_mag (x.den : Int)
  rwa [show decide ((x.den : Int) < 0) = false by simp,Int.natAbs_natCast] at this
set_option maxHeartbeats 3200000 in
set_option maxRecDepth 100000 in
theorem FText_any {w0 : World} (b c : Bool) (s t : ByteArray) (hs : s.size ≤ maxLen) (ht : t.size ≤ maxLen) :
    Calls Tryz.prog 124 #[.agg #[.bool b,.string s,.bool c,.string t]] w0 fun e w'=>∃ u k,e = .returned (.tuple #[.string u,.int .i64 k]) ∧ TextAns (.agg #[.bool b,.string s,.bool c,.string t]) u k ∧ Below w0.heap.size w0 w':=by
  have HS:=Lib.hid hs
  have HT:=Lib.hid ht
  have HW0:=Lib.hid (below_new w0 (.cells #[.bool b,.string s,.bool c,.string t] 25))
  have HX0:=Lib.hid (BoxAt.new w0 #[.bool b,.string s,.bool c,.string t] 25)
  clear hs ht
  go_enter Tryz.func124,Tryz.ntmps124
  go_wp2_with fail
  refine (May_any b c s t HS.out HT.out).mono ?_
  rintro e w1 ⟨r,rfl,hr,hb⟩
  have HX1:=Lib.hid (HX0.out.on hb)
  have HW1:=Lib.hid (HW0.out.trans (hb.mono HW0.out.size))
  have HR:=Lib.hid hr
  clear hb hr
  cases r
  · go_wp2
    go_ret2
    exact ⟨_,_,rfl,.inr ⟨fun h=>Bool.noConfusion (HR.out.2 h),rfl,rfl⟩,HW1.out⟩
  obtain ⟨x,hx⟩:=parts_of (by first | exact HR.out.1 rfl | exact HR.out.1 trivial)
  have HX:=Lib.hid hx
  obtain ⟨rfl,ht2,ho2,hn2⟩:=parts_den hx
  have HT2:=Lib.hid ht2
  have HO2:=Lib.hid ho2
  have HN2:=Lib.hid hn2
  have hc0:=HX1.out.cell 0 (.bool b) rfl
  have hc1:=HX1.out.cell 1 (.string s) rfl
  clear hx HR ht2 ho2 hn2
  go_wp2_with fail
  refine (WText_any b s HX.out.hs).mono ?_
  rintro e w2 ⟨un,k,rfl,hu,hb⟩
  have HU : Hid (un = textN x.num):=by
    obtain ⟨h1,h2⟩:=fracV_num HX.out
    rcases hu with h | h
    · rw [← h2]; exact h.2.1
    · exact absurd h1 h.1
  have HX2:=Lib.hid (HX1.out.on hb)
  have HW2:=Lib.hid (HW1.out.trans (hb.mono HW1.out.size))
  clear hu hb hc0 hc1
  go_wp2
  refine wp_region_acts 4 (fun w'=>Below w0.heap.size w0 w' ∧ BoxAt w' w0.heap.size #[.bool b,.string s,.bool false,.string t] 25) (fun w w'=>Below w.heap.size w w') (fun i w v=>match i with
      | 0=>v = .pointer (some ⟨w0.heap.size,2,none⟩)
      | 1=>v = .agg #[.bool false,.string t]
      | 2=>∃ g,v = .pointer (some ⟨g,0,none⟩) ∧ IntAt w g 0 1
      | _=>∃ s',v = .agg #[.bool false,.string s'] ∧ Hid (s' = mag 1)) (by kernel_rfl) (by kernel_rfl) (by kernel_rfl) ⟨HW2.out.drew,HX2.out⟩ (fun _ _=>(Below.refl _ _)) ?_ ⟨?_,?_,?_,?_,trivial⟩ ?_
  · intro i w1 w2 v hC hC2 hE hV
    match i with
    | 0=>exact hV
    | 1=>exact hV
    | 2=>obtain ⟨g,e,h⟩:=hV; exact ⟨g,e,h.on hE⟩
    | _ + 3=>exact hV
  · intro a' w' hag hC hd K hK
    have e1 : a'.tmps.getD 1 undef = .pointer (some ⟨w0.heap.size,0,none⟩):=hag 1 rfl
    go_step
    exact hK _ _ hC ((Below.refl _ _)) rfl
  · intro a' w' hag hC hd K hK
    have e17 : a'.tmps.getD 17 undef = .pointer (some ⟨w0.heap.size,2,none⟩):=hd.1
    have hc0:=hC.2.cell 2 (.bool false) rfl
    have hc1:=hC.2.cell 3 (.string t) rfl
    have HK:=Lib.hid (hK (.agg #[.bool false,.string t]) _ hC (Below.refl _ _) rfl)
    clear hK hC
    go_step
    exact HK.out
  · intro a' w' hag hC hd K hK
    go_step
    refine (NewInt_any (n:=1) (by decide)).mono ?_
    rintro e w2 ⟨g,rfl,hg,h1,h2⟩
    exact hK _ _ ⟨hC.1.trans (h2.mono hC.1.size),hC.2.on h2⟩ h2 ⟨_,rfl,h1⟩
  · intro a' w' hag hC hd K hK
    obtain ⟨g19,e19,h19⟩:=hd.1
    have e19 : a'.tmps.getD 19 undef = .pointer (some ⟨g19,0,none⟩):=e19
    go_step
    refine (back_agg h19 (okn_i64 (by decide))).mono ?_
    rintro e w2 ⟨p,s',rfl,h1,h2,hb⟩
    have hp : p = false:=by rw [h1.out]; rfl
    subst hp
    exact hK _ _ ⟨hC.1.trans (hb.mono hC.1.size),hC.2.on hb⟩ hb ⟨s',rfl,h2⟩
  · intro u w' hC hall
    obtain ⟨u0,u1,u2,u3,_⟩:=hall
    have u0 : u 0 = .pointer (some ⟨w0.heap.size,2,none⟩):=u0
    have u1 : u 1 = .agg #[.bool false,.string t]:=u1
    obtain ⟨s20,eu3,hs20⟩:=u3
    have u3 : u 3 = .agg #[.bool false,.string s20]:=eu3
    simp only [fillR,List.take_succ_cons,List.take_zero,Act.put,List.setIfInBounds_toArray,List.set_cons_succ,List.set_cons_zero,Nat.zero_add,Nat.reduceAdd,u0,u1,u3]
    clear u0 u1 u3
    have HC:=Lib.hid hC.1
    have HX3:=Lib.hid hC.2
    clear hC
    by_cases hd : t.toList = s20.toList
    · have HD : Hid (x.den = 1):=by
        have h1:=toList_inj.1 hd
        rw [HT2.out,hs20.out] at h1
        exact mag_inj h1
      go_wp2
      go_ret2
      exact ⟨_,_,rfl,.inl ⟨x,HX.out.fit,HX.out.val,by rw [textQ,if_pos HD.out]; exact HU.out,rfl⟩,HC.out⟩
    · have HD : Hid (¬ x.den = 1):=fun e=>hd (by rw [HT2.out,hs20.out,e])
      have hc0:=HX3.out.cell 2 (.bool false) rfl
      have hc1:=HX3.out.cell 3 (.string t) rfl
      go_wp2_with fail
      refine (WText_any false t HX.out.ht).mono ?_
      rintro e w4 ⟨u2,k2,rfl,hu,hb⟩
      have HU2 : Hid (u2 = textN (x.den : Int)):=by
        rcases hu with h | h
        · rw [← HN2.out]; exact h.2.1
        · exact absurd HO2.out h.1
      have HB:=Lib.hid (HC.out.trans (hb.mono HC.out.size))
      have hu1 : un.size ≤ 200000:=by rw [HU.out]; exact textN_small (Nat.le_trans HX.out.fit.1 (by decide))
      have hu2 : u2.size ≤ 200000:=by rw [HU2.out]; exact textN_small (by rw [Int.natAbs_natCast]; exact Nat.le_trans HX.out.fit.2 (by decide))
      have hu3 : ((⟨#[47]⟩ : ByteArray) ++ u2).size ≤ 200001:=by rw [ByteArray.size_append]; show 1 + u2.size ≤ _; omega
      clear hu hb hc0 hc1
      go_wp2
      go_ret2
      exact ⟨_,_,rfl,.inl ⟨x,HX.out.fit,HX.out.val,by rw [textQ,if_neg HD.out,← HU.out,← HU2.out],rfl⟩,HB.out⟩
end Go.Proofs.YtpccljaooghafaaGreat
end
section
namespace Go.Proofs.YtpccljaooghafaaGreat.Y
open Go Go.RowKit
theorem spec_yes {P : Program} (S : Spec P) (ho : S.obs = []) (hr : S.res = .one (.c (.b (.v (.bool true))))) (w : World) : Calls P S.f (S.args.map (SV.den idE)).toArray w fun e w'=>e = .returned (.bool true) ∧ Below w.heap.size w w':=by
  refine (S.ok idE w (by rw [ho]; intro k t h; simp at h)).mono ?_
  rintro e w' ⟨xs,_,rfl,_,hb⟩
  exact ⟨by rw [hr]; rfl,hb⟩
end Go.Proofs.YtpccljaooghafaaGreat.Y
end
section
namespace Go.Proofs.YtpccljaooghafaaGreat.Y
open Go Go.RowKit
set_option maxRecDepth 100000
abbrev I64 (n : Int) : Prop:=-9223372036854775808 ≤ n ∧ n ≤ 9223372036854775807
theorem sz_i64 {n : Int} (h : I64 n) : Sz 8 (Rat.divInt n 1):=sz_lit n 1 (by omega) (by decide) (by decide)
def sFIntA (n : Int) (h : I64 n) : Spec Tryz.prog :=
  Spec.auto Tryz.call28 [.one (svI n)] [] (.one (.a (fC (Rat.divInt n 1)))) []
    [mkR,fSetI n h,(sTldF ((sz_i64 h).mono (by decide))).e] [] 400 Tryz.func28 hmA (by kernel_rfl) (fun β=>by kernel_rfl)
theorem i64_of {n : Int} (h : (Lit.int .i64 n).wf = true) : I64 n:=by
  simp only [Lit.wf,Bool.and_eq_true,decide_eq_true_eq] at h
  exact h
end Go.Proofs.YtpccljaooghafaaGreat.Y
end
section
namespace Go.Proofs.YtpccljaooghafaaGreat.Y
open Go Go.RowKit
set_option maxRecDepth 100000
def sFrat {x : Rat} (h : Fit x) : Spec Tryz.prog :=
  ⟨129,Tryz.call129,[.one (.a (fC x))],[],.one (.c (.b (.z 0 0))),[ratT x],fun β w hh=>by
    obtain ⟨y,hp⟩:=parts_of (fitF x h)
    obtain rfl : x = y:=fracV_inj hp.val
    exact (rat_frac hp).mono fun e w' ⟨g,he,h1,h2,h3⟩=>⟨[newPl g],fun y hy c hc=>by
      obtain rfl:=List.mem_singleton.1 hy
      rw [((newPl_one g).1 c).1 hc]
      exact .inl h1,by rw [he]; exact congrArg Ending.returned (extE_z β 0 0 (newPl g)).symm,⟨⟨g,(newPl_one g).at1,h2⟩,trivial⟩,h3⟩,by kernel_rfl⟩
theorem zero_lit : (Rat.divInt 0 1 : Rat) = 0:=of_decide_eq_true (by kernel_rfl : decide ((Rat.divInt 0 1 : Rat) = 0) = true)
end Go.Proofs.YtpccljaooghafaaGreat.Y
end
section
namespace Go.Proofs.YtpccljaooghafaaGreat
open Go.RowKit
set_option maxRecDepth 100000 in
theorem told_not {w : World} (b c : Bool) (s t : ByteArray) :
    Calls Tryz.prog 19 #[.agg #[.bool false,.string ⟨#[]⟩,.bool false,.string ⟨#[]⟩],.int .i64 2,.agg #[.bool b,.string s,.bool c,.string t],.bool false] w fun e w'=>e = .returned (.bool true) ∧ Below w.heap.size w w':=by
  have h1:=below_new w (.cells #[.bool false,.string ⟨#[]⟩,.bool false,.string ⟨#[]⟩] 25)
  have HB:=Lib.hid (below_alloc_ h1 (.cells #[.bool b,.string s,.bool c,.string t] 25))
  clear h1
  go_enter Tryz.func19,Tryz.ntmps19
  go_wp2
  go_ret
  exact ⟨rfl,HB.out⟩
end Go.Proofs.YtpccljaooghafaaGreat
end
