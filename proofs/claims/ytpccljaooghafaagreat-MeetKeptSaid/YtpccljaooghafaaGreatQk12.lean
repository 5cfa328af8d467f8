/- IntG, GsC, GsD, Ops, Nst, CiC, CiD, CiE, CiF, CiG, MtB, MwA, Yd, G1, MtA, MtC, MtD. -/
import Derived.Test.YtpccljaooghafaaGreatQk11
set_option linter.unnecessarySimpa false
set_option linter.unusedVariables false
set_option linter.unusedSimpArgs false
section
namespace Go.Proofs.YtpccljaooghafaaGreat
open Go.RowKit
set_option maxRecDepth 100000 in
theorem Lsh_any {w:World} {b o c p n k:Nat} (hz:Slot w b o 2) (hx:IntAt w c p (n:Int)) (hn:(dig n).length≤8589934592) (hk:k≤137438953472) :
  Calls Tryz.prog 411 #[.pointer (some ⟨b,o,none⟩),.pointer (some ⟨c,p,none⟩),.int .u64 (k:Int)] w fun e w'=>e=.returned (.pointer (some ⟨b,o,none⟩))∧IntAt w' b o ((n*2^k:Nat):Int)∧Touch w w' b o 2:=by
 obtain ⟨A,m,cap,hc0,hc1,hv,hlt⟩:=hx.open_
 rw [show decide ((n:Int)<0)=false by simp] at hc0
 rw [Int.natAbs_natCast] at hv
 have hm:=hv.len.1
 rw [← hm] at hn
 have HZ:=Lib.hid hz
 have HV:=Lib.hid hv
 have HC0:=Lib.hid hc0
 have HC1:=Lib.hid hc1
 clear hx hz hv hc0 hc1 hm
 go_enter Tryz.func411,Tryz.ntmps411
 go_wp2
 refine wp_region_acts 12 (fun w'=>Below w.heap.size w w') (fun w w'=>Below w.heap.size w w') (fun i w v=>match i with
   | 0=>v=.pointer (some ⟨b,o,none⟩)
   | 1=>v=.pointer (some ⟨c,p,none⟩)
   | 2=>v=.pointer (some ⟨c,p,none⟩)
   | 3=>v=.pointer (some ⟨c,p,none⟩)
   | 4=>v=.bool false
   | 5=>v=.pointer (some ⟨c,p,none⟩)
   | 6=>v=.pointer (some ⟨c,p,none⟩)
   | 7=>v=.pointer (some ⟨c,p+1,none⟩)
   | 8=>v=.slice A m cap
   | 9=>v=.int .u64 (k:Int)
   | 10=>v=.int .i64 (k:Int)
   | _=>∃ A' m' c',v=.slice A' m' c'∧Words w (.slice A' m' c') (dig (n*2^k))) (by kernel_rfl) (by kernel_rfl) (by kernel_rfl) ((Below.refl _ _).drew) (fun _ _=>Below.refl _ _) ?_ ⟨?_,?_,?_,?_,?_,?_,?_,?_,?_,?_,?_,?_,trivial⟩ ?_
 · intro i w1 w2 v hC hC2 hE hV
   match i with
   | 0=>exact hV
   | 1=>exact hV
   | 2=>exact hV
   | 3=>exact hV
   | 4=>exact hV
   | 5=>exact hV
   | 6=>exact hV
   | 7=>exact hV
   | 8=>exact hV
   | 9=>exact hV
   | 10=>exact hV
   | _+11=>obtain ⟨A',m',c',e,h⟩:=hV; exact ⟨A',m',c',e,h.below hE⟩
 · intro a' w' hag hC hd K hK
   have e0:a'.tmps.getD 0 undef=.pointer (some ⟨b,o,none⟩):=hag 0 rfl
   go_step
   exact hK _ _ hC (Below.refl _ _) rfl
 · intro a' w' hag hC hd K hK
   have e1:a'.tmps.getD 1 undef=.pointer (some ⟨c,p,none⟩):=hag 1 rfl
   go_step
   exact hK _ _ hC (Below.refl _ _) rfl
 · intro a' w' hag hC hd K hK
   have e8:a'.tmps.getD 8 undef=.pointer (some ⟨c,p,none⟩):=hd.1
   go_step
   exact hK _ _ hC (Below.refl _ _) rfl
 · intro a' w' hag hC hd K hK
   have e9:a'.tmps.getD 9 undef=.pointer (some ⟨c,p,none⟩):=hd.1
   go_step
   exact hK _ _ hC (Below.refl _ _) rfl
 · intro a' w' hag hC hd K hK
   have e10:a'.tmps.getD 10 undef=.pointer (some ⟨c,p,none⟩):=hd.1
   have hcell:w'.cell? ⟨c,p,none⟩=some (.bool false):=by rw [hC.cell (p:=⟨c,p,none⟩) hlt]; exact HC0.out
   have HC:=Lib.hid hC
   clear hC
   go_step
   exact hK _ _ HC.out (Below.refl _ _) rfl
 · intro a' w' hag hC hd K hK
   have e1:a'.tmps.getD 1 undef=.pointer (some ⟨c,p,none⟩):=hag 1 rfl
   go_step
   exact hK _ _ hC (Below.refl _ _) rfl
 · intro a' w' hag hC hd K hK
   have e12:a'.tmps.getD 12 undef=.pointer (some ⟨c,p,none⟩):=hd.1
   go_step
   exact hK _ _ hC (Below.refl _ _) rfl
 · intro a' w' hag hC hd K hK
   have e13:a'.tmps.getD 13 undef=.pointer (some ⟨c,p,none⟩):=hd.1
   go_step
   exact hK _ _ hC (Below.refl _ _) rfl
 · intro a' w' hag hC hd K hK
   have e14:a'.tmps.getD 14 undef=.pointer (some ⟨c,p+1,none⟩):=hd.1
   have hcell:w'.cell? ⟨c,p+1,none⟩=some (.slice A m cap):=by rw [hC.cell (p:=⟨c,p+1,none⟩) hlt]; exact HC1.out
   have HC:=Lib.hid hC
   clear hC
   go_step
   exact hK _ _ HC.out (Below.refl _ _) rfl
 · intro a' w' hag hC hd K hK
   have e2:a'.tmps.getD 2 undef=.int .u64 (k:Int):=hag 2 rfl
   go_step
   exact hK _ _ hC (Below.refl _ _) rfl
 · intro a' w' hag hC hd K hK
   have e16:a'.tmps.getD 16 undef=.int .u64 (k:Int):=hd.1
   go_step
   exact hK _ _ hC (Below.refl _ _) rfl
 · intro a' w' hag hC hd K hK
   have e15:a'.tmps.getD 15 undef=.slice A m cap:=hd.1
   have e17:a'.tmps.getD 17 undef=.int .i64 (k:Int):=hd.2.1
   go_step
   refine (left_any (HV.out.below hC) hn k hk).mono ?_
   rintro e w2 ⟨v,rfl,h1,h2⟩
   obtain ⟨A',m',c',rfl⟩:=h1.form
   rw [val_dig] at h1
   exact hK _ _ (hC.trans (h2.mono hC.size)) h2 ⟨_,_,_,rfl,h1⟩
 · intro u w' hC hall
   obtain ⟨u0,u1,u2,u3,u4,u5,u6,u7,u8,u9,u10,u11,_⟩:=hall
   have u0:u 0=.pointer (some ⟨b,o,none⟩):=u0
   have u1:u 1=.pointer (some ⟨c,p,none⟩):=u1
   have u2:u 2=.pointer (some ⟨c,p,none⟩):=u2
   have u3:u 3=.pointer (some ⟨c,p,none⟩):=u3
   have u4:u 4=.bool false:=u4
   have u5:u 5=.pointer (some ⟨c,p,none⟩):=u5
   have u6:u 6=.pointer (some ⟨c,p,none⟩):=u6
   have u7:u 7=.pointer (some ⟨c,p+1,none⟩):=u7
   have u8:u 8=.slice A m cap:=u8
   have u9:u 9=.int .u64 (k:Int):=u9
   have u10:u 10=.int .i64 (k:Int):=u10
   obtain ⟨A',m',c',eu11,hw'⟩:=u11
   have u11:u 11=.slice A' m' c':=eu11
   simp only [fillR,List.take_succ_cons,List.take_zero,Act.put,List.setIfInBounds_toArray,List.set_cons_succ,List.set_cons_zero,Nat.zero_add,Nat.reduceAdd,u0,u1,u2,u3,u4,u5,u6,u7,u8,u9,u10,u11]
   clear u0 u1 u2 u3 u4 u5 u6 u7 u8 u9 u10 u11
   have HW:=Lib.hid hw'
   have HC:=Lib.hid hC
   have hsl:=HZ.out.on hC
   clear hw' hC
   go_wp2_with (go_at_call 384; refine (is_any false hsl HW.out).mono ?_; rintro e w2 ⟨rfl,h1,h2⟩)
   go_ret
   rw [val_dig] at h1
   exact ⟨rfl,h1,(Touch.of_below HC.out _ _ _).trans h2⟩
set_option maxRecDepth 100000 in
theorem Rsh_any {w:World} {b o c p n k:Nat} (hz:Slot w b o 2) (hx:IntAt w c p (n:Int)) (hk:k≤1099511627776) :
  Calls Tryz.prog 412 #[.pointer (some ⟨b,o,none⟩),.pointer (some ⟨c,p,none⟩),.int .u64 (k:Int)] w fun e w'=>e=.returned (.pointer (some ⟨b,o,none⟩))∧IntAt w' b o ((n/2^k:Nat):Int)∧Touch w w' b o 2:=by
 obtain ⟨A,m,cap,hc0,hc1,hv,hlt⟩:=hx.open_
 rw [show decide ((n:Int)<0)=false by simp] at hc0
 rw [Int.natAbs_natCast] at hv
 have hm:m≤17179869184:=by have:=hv.len.1; have:=hv.2.1; omega
 have HZ:=Lib.hid hz
 have HV:=Lib.hid hv
 have HC0:=Lib.hid hc0
 clear hx hz hv
 go_enter Tryz.func412,Tryz.ntmps412
 go_wp2_with fail
 refine (right_any HV.out hm k hk).mono ?_
 rintro e w1 ⟨v,rfl,h1,h2⟩
 obtain ⟨A1,m1,c1,rfl⟩:=h1.form
 rw [val_dig] at h1
 have hd0:w1.cell? ⟨c,p,none⟩=some (.bool false):=by rw [h2.cell (p:=⟨c,p,none⟩) hlt]; exact HC0.out
 have hlt1:c<w1.heap.size:=Nat.lt_of_lt_of_le hlt h2.size
 have HD0:=Lib.hid hd0
 have HW:=Lib.hid h1
 have HB:=Lib.hid h2
 clear h1 h2 hc0 hc1 hd0
 go_wp2
 refine wp_region_acts 16 (fun w'=>Below w1.heap.size w1 w') (fun w w'=>Below w.heap.size w w') (fun i w v=>match i with
   | 0=>v=.pointer (some ⟨c,p,none⟩)
   | 1=>v=.pointer (some ⟨c,p,none⟩)
   | 2=>v=.pointer (some ⟨c,p,none⟩)
   | 3=>v=.bool false
   | 4=>v=.bool false
   | 5=>v=undef
   | 6=>v=undef
   | 7=>v=undef
   | 8=>v=undef
   | 9=>v=undef
   | 10=>v=undef
   | 11=>v=undef
   | 12=>v=undef
   | 13=>v=undef
   | 14=>v=undef
   | _=>v=.bool false) (by kernel_rfl) (by kernel_rfl) (by kernel_rfl) ((Below.refl _ _).drew) (fun _ _=>Below.refl _ _) ?_ ⟨?_,?_,?_,?_,?_,?_,?_,?_,?_,?_,?_,?_,?_,?_,?_,?_,trivial⟩ ?_
 · intro i w1 w2 v hC hC2 hE hV
   match i with
   | 0=>exact hV
   | 1=>exact hV
   | 2=>exact hV
   | 3=>exact hV
   | 4=>exact hV
   | 5=>exact hV
   | 6=>exact hV
   | 7=>exact hV
   | 8=>exact hV
   | 9=>exact hV
   | 10=>exact hV
   | 11=>exact hV
   | 12=>exact hV
   | 13=>exact hV
   | 14=>exact hV
   | _+15=>exact hV
 · intro a' w' hag hC hd K hK
   have e1:a'.tmps.getD 1 undef=.pointer (some ⟨c,p,none⟩):=hag 1 rfl
   go_step
   exact hK _ _ hC (Below.refl _ _) rfl
 · intro a' w' hag hC hd K hK
   have e15:a'.tmps.getD 15 undef=.pointer (some ⟨c,p,none⟩):=hd.1
   go_step
   exact hK _ _ hC (Below.refl _ _) rfl
 · intro a' w' hag hC hd K hK
   have e16:a'.tmps.getD 16 undef=.pointer (some ⟨c,p,none⟩):=hd.1
   go_step
   exact hK _ _ hC (Below.refl _ _) rfl
 · intro a' w' hag hC hd K hK
   have e17:a'.tmps.getD 17 undef=.pointer (some ⟨c,p,none⟩):=hd.1
   have hcell:w'.cell? ⟨c,p,none⟩=some (.bool false):=by rw [hC.cell (p:=⟨c,p,none⟩) hlt1]; exact HD0.out
   have HC:=Lib.hid hC
   clear hC
   go_step
   exact hK _ _ HC.out (Below.refl _ _) rfl
 · intro a' w' hag hC hd K hK
   have e18:a'.tmps.getD 18 undef=.bool false:=hd.1
   go_step
   exact hK _ _ hC (Below.refl _ _) rfl
 · intro a' w' hag hC hd
   exact ⟨fun hw=>Bool.noConfusion (hw.symm.trans (unwanted_of (j:=4) (d:=19) (b':=false) rfl rfl rfl hd.1 (by decide))),fun _=>rfl⟩
 · intro a' w' hag hC hd
   exact ⟨fun hw=>Bool.noConfusion (hw.symm.trans (unwanted_of (j:=4) (d:=19) (b':=false) rfl rfl rfl hd.1 (by decide))),fun _=>rfl⟩
 · intro a' w' hag hC hd
   exact ⟨fun hw=>Bool.noConfusion (hw.symm.trans (unwanted_of (j:=4) (d:=19) (b':=false) rfl rfl rfl hd.2.1 (by decide))),fun _=>rfl⟩
 · intro a' w' hag hC hd
   exact ⟨fun hw=>Bool.noConfusion (hw.symm.trans (unwanted_of (j:=4) (d:=19) (b':=false) rfl rfl rfl hd.2.2.1 (by decide))),fun _=>rfl⟩
 · intro a' w' hag hC hd
   exact ⟨fun hw=>Bool.noConfusion (hw.symm.trans (unwanted_of (j:=4) (d:=19) (b':=false) rfl rfl rfl hd.1 (by decide))),fun _=>rfl⟩
 · intro a' w' hag hC hd
   exact ⟨fun hw=>Bool.noConfusion (hw.symm.trans (unwanted_of (j:=4) (d:=19) (b':=false) rfl rfl rfl hd.2.1 (by decide))),fun _=>rfl⟩
 · intro a' w' hag hC hd
   exact ⟨fun hw=>Bool.noConfusion (hw.symm.trans (unwanted_of (j:=4) (d:=19) (b':=false) rfl rfl rfl hd.2.1 (by decide))),fun _=>rfl⟩
 · intro a' w' hag hC hd
   exact ⟨fun hw=>Bool.noConfusion (hw.symm.trans (unwanted_of (j:=4) (d:=19) (b':=false) rfl rfl rfl hd.2.1 (by decide))),fun _=>rfl⟩
 · intro a' w' hag hC hd
   exact ⟨fun hw=>Bool.noConfusion (hw.symm.trans (unwanted_of (j:=4) (d:=19) (b':=false) rfl rfl rfl hd.2.2.2.1 (by decide))),fun _=>rfl⟩
 · intro a' w' hag hC hd
   exact ⟨fun hw=>Bool.noConfusion (hw.symm.trans (unwanted_of (j:=4) (d:=19) (b':=false) rfl rfl rfl hd.2.1 (by decide))),fun _=>rfl⟩
 · intro a' w' hag hC hd K hK
   have e19:a'.tmps.getD 19 undef=.bool false:=hd.1
   have e29:a'.tmps.getD 29 undef=undef:=hd.2.1
   go_step
   exact hK _ _ hC (Below.refl _ _) rfl
 · intro u w' hC hall
   obtain ⟨u0,u1,u2,u3,u4,u5,u6,u7,u8,u9,u10,u11,u12,u13,u14,u15,_⟩:=hall
   have u0:u 0=.pointer (some ⟨c,p,none⟩):=u0
   have u1:u 1=.pointer (some ⟨c,p,none⟩):=u1
   have u2:u 2=.pointer (some ⟨c,p,none⟩):=u2
   have u3:u 3=.bool false:=u3
   have u4:u 4=.bool false:=u4
   have u5:u 5=undef:=u5
   have u6:u 6=undef:=u6
   have u7:u 7=undef:=u7
   have u8:u 8=undef:=u8
   have u9:u 9=undef:=u9
   have u10:u 10=undef:=u10
   have u11:u 11=undef:=u11
   have u12:u 12=undef:=u12
   have u13:u 13=undef:=u13
   have u14:u 14=undef:=u14
   have u15:u 15=.bool false:=u15
   simp only [fillR,List.take_succ_cons,List.take_zero,Act.put,List.setIfInBounds_toArray,List.set_cons_succ,List.set_cons_zero,Nat.zero_add,Nat.reduceAdd,u0,u1,u2,u3,u4,u5,u6,u7,u8,u9,u10,u11,u12,u13,u14,u15]
   clear u0 u1 u2 u3 u4 u5 u6 u7 u8 u9 u10 u11 u12 u13 u14 u15
   have HC:=Lib.hid hC
   have hc1:w'.cell? ⟨c,p,none⟩=some (.bool false):=by rw [hC.cell (p:=⟨c,p,none⟩) hlt1]; exact HD0.out
   have hsl:=(HZ.out.on HB.out).on hC
   have hw2:=HW.out.below hC
   clear hC
   go_wp2_with (go_at_call 384; refine (is_any false hsl hw2).mono ?_; rintro e w2 ⟨rfl,h1,h2⟩)
   go_ret
   rw [val_dig] at h1
   exact ⟨rfl,h1,((Touch.of_below HB.out _ _ _).trans (Touch.of_below HC.out _ _ _)).trans h2⟩
theorem newton_up (n R:Nat) (hR:0<R):n<((n/R+R)/2+1)*((n/R+R)/2+1):=by
 have h1:n<R*(n/R+1):=by have:=Nat.lt_mul_div_succ n hR; simpa [Nat.mul_add] using this
 generalize n/R=q at h1
 generalize hs:(q+R)/2=s
 have h2:q+1+R≤2*(s+1):=by omega
 refine Nat.lt_of_lt_of_le h1 ?_
 rcases Nat.le_total R (s+1) with h | h
 · obtain ⟨d,hd⟩:=Nat.exists_eq_add_of_le h
   rw [hd] at h2 ⊢
   have h3:q+1≤R+2*d:=by omega
   calc R*(q+1)≤R*(R+2*d):=Nat.mul_le_mul_left _ h3
    _≤(R+d)*(R+d):=by rw [Nat.mul_add,Nat.add_mul,Nat.mul_add,Nat.mul_add,Nat.mul_comm d R,Nat.mul_left_comm,Nat.two_mul]; omega
 · obtain ⟨d,hd⟩:=Nat.exists_eq_add_of_le h
   have h3:q+1+2*d≤R:=by omega
   rw [hd] at h2 ⊢
   have h4:q+1+d≤s+1:=by omega
   calc (s+1+d)*(q+1)=(s+1)*(q+1)+d*(q+1):=by rw [Nat.add_mul]
    _≤(s+1)*(q+1)+d*(s+1):=Nat.add_le_add_left (Nat.mul_le_mul_left _ (by omega)) _
    _=(s+1)*(q+1+d):=by rw [Nat.mul_add (s+1) (q+1) d,Nat.mul_comm d]
    _≤(s+1)*(s+1):=Nat.mul_le_mul_left _ h4
theorem newton_end (n R:Nat) (hR:0<R) (h:R≤(n/R+R)/2):R*R≤n:=by
 have h1:R≤n/R:=by omega
 exact Nat.le_trans (Nat.mul_le_mul_left _ h1) (Nat.mul_div_le n R)
theorem newton_pos (n R:Nat) (hn:0<n) (hR:0<R) (h:(n/R+R)/2<R):0<(n/R+R)/2:=by
 rcases Nat.lt_or_ge R 2 with h2 | h2
 · obtain rfl:R=1:=by omega
   rw [Nat.div_one] at h ⊢
   omega
 · generalize n/R=q at h ⊢
   omega
theorem okn_nat {m k:Nat} (h:m≤k) (hk:(dig k).length≤4294967296):Okn (m:Int):=by
 unfold Okn
 rw [Int.natAbs_natCast]
 exact Nat.le_trans (dig_len_mono _ _ h) hk
theorem cmpI_lt {a b:Nat} (h:a<b):cmpI (a:Int) (b:Int) = -1:=by
 unfold cmpI
 rw [if_pos (by omega)]
theorem cmpI_ge {a b:Nat} (h:b≤a):cmpI (a:Int) (b:Int)=0∨cmpI (a:Int) (b:Int)=1:=by
 unfold cmpI
 rw [if_neg (by omega)]
 by_cases k:(b:Int)<(a:Int)
 · rw [if_pos k]; exact .inr rfl
 · rw [if_neg k]; exact .inl rfl
theorem root_start {n L:Nat} (hn:0<n) (h:Bits n L):2^(L/2+1)≤4*n∧n<(2^(L/2+1)+1)*(2^(L/2+1)+1):=by
 have hL:0<L:=by
  rcases Nat.eq_zero_or_pos L with h0 | h0
  · subst h0; have:=h.1; simp at this; omega
  · exact h0
 have h1:=h.2 hL
 have h2:=h.1
 constructor
 · have h3:2^(L/2+1)≤2^(L-1+2):=Nat.pow_le_pow_right (by decide) (by omega)
   rw [show 2^(L-1+2)=2^(L-1)*4 from by rw [Nat.pow_add]] at h3
   exact Nat.le_trans h3 (by rw [Nat.mul_comm]; exact Nat.mul_le_mul_left _ h1)
 · have h3:2^L≤2^(L/2+1)*2^(L/2+1):=by
    rw [← Nat.pow_add]
    exact Nat.pow_le_pow_right (by decide) (by omega)
   have h4:2^(L/2+1)*2^(L/2+1)≤(2^(L/2+1)+1)*(2^(L/2+1)+1):=Nat.mul_le_mul (Nat.le_succ _) (Nat.le_succ _)
   omega
set_option maxHeartbeats 1600000 in
set_option maxRecDepth 100000 in
theorem Sqrt_any {w:World} {b o c p n:Nat} (hz:Slot w b o 2) (hx:IntAt w c p (n:Int)) (hn:(dig (5*n)).length≤4294967296) :
  Calls Tryz.prog 390 #[.pointer (some ⟨b,o,none⟩),.pointer (some ⟨c,p,none⟩)] w fun e w'=>e=.returned (.pointer (some ⟨b,o,none⟩))∧(∃ r:Nat,r*r≤n∧n<(r+1)*(r+1)∧IntAt w' b o (r:Int))∧Touch w w' b o 2:=by
 have HZ:=Lib.hid hz
 have HN:=Lib.hid hn
 rcases Nat.eq_zero_or_pos n with h0 | h0
 · subst h0
   have HX:Hid (IntAt w c p 0):=Lib.hid hx
   clear hz hx hn
   go_enter Tryz.func390,Tryz.ntmps390
   go_wp2_with fail
   refine (sign_any HX.out).mono ?_
   rw [Int.sign_zero]
   rintro e w1 ⟨rfl,rfl⟩
   go_wp2_with fail
   refine (is_any false HZ.out (Words.nil w)).mono ?_
   rintro e w2 ⟨rfl,h1,h2⟩
   have H1:=Lib.hid h1
   have H2:=Lib.hid h2
   clear h1 h2
   go_wp2
   go_ret
   exact ⟨rfl,⟨0,Nat.le_refl _,by decide,H1.out⟩,H2.out⟩
 · have HX:=Lib.hid hx
   have H0:=Lib.hid h0
   have hs:((n:Nat):Int).sign=1:=Int.sign_eq_one_of_pos (by omega)
   clear hz hx hn
   go_enter Tryz.func390,Tryz.ntmps390
   go_wp2_with fail
   refine (sign_any HX.out).mono ?_
   rw [hs]
   rintro e w1 ⟨rfl,rfl⟩
   clear hs h0
   go_wp2_with fail
   have HA:=Lib.hid ((Below.refl w.heap.size w).alloc (Nat.le_refl _) (.cells #[.bool false,.slice none 0 0] 163))
   have HS:=Lib.hid (IntAt.new w).slot
   refine (NewInt_any (n:=1) (by decide)).mono ?_
   rintro e w2 ⟨g1,rfl,hg1,h1,hb1⟩
   have H1:=Lib.hid h1
   have HS2:=Lib.hid (HS.out.on hb1)
   have HB2:=Lib.hid (HA.out.trans (hb1.mono HA.out.size))
   clear h1 hb1 hg1
   go_wp2_with fail
   refine (BitLen_any (HX.out.on HB2.out)).mono ?_
   rintro e w3 ⟨L,rfl,hL,hLb,hb2⟩
   rw [Int.natAbs_natCast] at hL
   obtain ⟨q,hq⟩:∃ q,q=L/2:=⟨_,rfl⟩
   have hqi:(L:Int)/2=(q:Int):=by omega
   have hqi2:(L:Int).tdiv 2=(q:Int):=by rw [Int.tdiv_eq_ediv_of_nonneg (by omega)]; exact hqi
   obtain ⟨k,hk⟩:∃ k,k=q+1:=⟨_,rfl⟩
   have hki:(q:Int)+1=(k:Int):=by omega
   have hkb:k≤274877906945:=by omega
   have hrs:=root_start H0.out hL
   rw [← hq,← hk] at hrs
   have HR:=Lib.hid hrs
   have H1b:=Lib.hid (H1.out.on hb2)
   have HS3:=Lib.hid (HS2.out.on hb2)
   have HB3:=Lib.hid (HB2.out.trans (hb2.mono HB2.out.size))
   have HKL:Hid (k≤137438953472):=by
    have h5:(dig n).length≤4294967296:=Nat.le_trans (dig_len_mono n (5*n) (by omega)) HN.out
    have h6:=dig_lt n
    rw [p32] at h6
    obtain ⟨E,hE⟩:∃ E:Nat,E=137438953472:=⟨_,rfl⟩
    have h7:n<2^E:=Nat.lt_of_lt_of_le h6 (Nat.pow_le_pow_right (by decide) (by omega))
    have h8:L≤E:=by
     rcases Nat.lt_or_ge E L with h9 | h9
     · have h10:=hL.2 (by omega)
       have h11:2^E≤2^(L-1):=Nat.pow_le_pow_right (by decide) (by omega)
       exact absurd (Nat.lt_of_lt_of_le h7 (Nat.le_trans h11 h10)) (Nat.lt_irrefl _)
     · exact h9
    clear h6 h7 hrs
    show k≤137438953472
    omega
   clear hb2 hL hrs hq hk
   go_wp2_with fail
   refine (Lsh_any (n:=1) (k:=k) HS3.out H1b.out (Nat.le_trans (dig_len_mono 1 (5*n) (by have:=H0.out; omega)) (Nat.le_trans HN.out (by decide))) HKL.out).mono ?_
   rintro e w4 ⟨rfl,h2,h3⟩
   rw [Nat.one_mul] at h2
   have H2:=Lib.hid h2
   have HB4:=Lib.hid (HB3.out.trans (h3.below (B:=w.heap.size) (Nat.le_refl _) HB3.out.size))
   clear h2 h3
   go_wp2
   go_loopg [5,6] (2^k) (fun m rv sv wr=>∃ (g R:Nat),rv=.pointer (some ⟨g,0,none⟩)∧R≤m∧Hid (w.heap.size≤g)∧Hid (0<R)∧Hid (R≤4*n)∧Hid (n<(R+1)*(R+1))∧Hid (IntAt wr g 0 (R:Int))∧Hid (Below w.heap.size w wr))
   case atStart=>exact ⟨w.heap.size,2^k,rfl,Nat.le_refl _,Nat.le_refl _,Nat.pow_pos (by decide),HR.out.1,HR.out.2,H2.out,HB4.out⟩
   case round =>
    obtain ⟨g,R,rfl,hRm,hg,hR0,hR4,hRn,hr,hb⟩:=hrel
    clear H1 HS HS2 HB2 HS3 HB3 H1b H2 HB4 HA
    go_wp2_with fail
    have hA:Below wr.heap.size wr (wr.alloc (.cells #[.bool false,.slice none 0 0] 163)):=(Below.refl _ _).alloc (Nat.le_refl _) _
    have hS:=(IntAt.new wr).slot
    have hxr:=HX.out.on hb.out
    refine (Quo_any hS (hxr.on hA) (hr.out.on hA) (by have:=hR0.out; omega) (okn_nat (k:=5*n) (by omega) HN.out)).mono ?_
    rintro e w5 ⟨rfl,h1,h2⟩
    have hq:((n:Nat):Int).tdiv ((R:Nat):Int)=((n/R:Nat):Int):=rfl
    rw [hq] at h1
    have B5:=hA.trans (h2.below (B:=wr.heap.size) (Nat.le_refl _) hA.size)
    have HB5:=Lib.hid B5
    have H5:=Lib.hid h1
    clear hA hS hxr h1 h2 B5 hq
    go_wp2_with fail
    have hdn:n/R≤n:=Nat.div_le_self _ _
    refine (Add_any H5.out.slot H5.out (hr.out.on HB5.out) (okn_nat (k:=5*n) (by omega) HN.out) (okn_nat (k:=5*n) (by have:=hR4.out; omega) HN.out)).mono ?_
    rintro e w6 ⟨rfl,h1,h2⟩
    rw [show ((n/R:Nat):Int)+((R:Nat):Int)=((n/R+R:Nat):Int) by omega] at h1
    have HB6:=Lib.hid (HB5.out.trans (h2.below (B:=wr.heap.size) (Nat.le_refl _) HB5.out.size))
    have H6:=Lib.hid h1
    clear h1 h2 hdn
    go_wp2_with fail
    refine (Rsh_any (k:=1) H6.out.slot H6.out (by decide)).mono ?_
    rintro e w7 ⟨rfl,h1,h2⟩
    rw [Nat.pow_one] at h1
    obtain ⟨S,hS⟩:∃ S,S=(n/R+R)/2:=⟨_,rfl⟩
    rw [← hS] at h1
    have HB7:=Lib.hid (HB6.out.trans (h2.below (B:=wr.heap.size) (Nat.le_refl _) HB6.out.size))
    have H7:=Lib.hid h1
    have HSS:=Lib.hid hS
    clear h1 h2 hS
    go_wp2_with fail
    refine (Cmp_any H7.out (hr.out.on HB7.out)).mono ?_
    rintro e w8 ⟨rfl,hb8⟩
    have HB8:=Lib.hid (HB7.out.trans (hb8.mono HB7.out.size))
    have H8:=Lib.hid (H7.out.on hb8)
    clear hb8
    rcases Nat.lt_or_ge S R with hlt | hge
    · rw [cmpI_lt hlt]
      go_wp2
      go_roundg S
      case measure=>exact Nat.lt_of_lt_of_le hlt hRm
      case rel =>
       have e:=HSS.out
       refine ⟨wr.heap.size,S,rfl,Nat.le_refl _,hb.out.size,?_,?_,?_,H8.out,hb.out.trans (HB8.out.mono hb.out.size)⟩
       · rw [Hid,e]; exact newton_pos n R H0.out hR0.out (e▸hlt)
       · exact Nat.le_trans (Nat.le_of_lt hlt) hR4.out
       · rw [Hid,e]; exact newton_up n R hR0.out
    · have hend:R*R≤n:=newton_end n R hR0.out (HSS.out▸hge)
      have HE:=Lib.hid hend
      have hzz:Slot w8 b o 2:=(HZ.out.on hb.out).on HB8.out
      have HZ8:=Lib.hid hzz
      have HR8:=Lib.hid (hr.out.on HB8.out)
      have HT:=Lib.hid (hb.out.trans (HB8.out.mono hb.out.size))
      clear hend hzz
      rcases cmpI_ge hge with h9 | h9
      all_goals
       rw [h9]
       go_wp2_with fail
       refine (set_any HZ8.out HR8.out).mono ?_
       rintro e w9 ⟨rfl,h1,h2⟩
       have K1:=Lib.hid h1
       have K2:=Lib.hid ((Touch.of_below HT.out b o 2).trans h2)
       clear h1 h2
       go_wp2
       go_ret
       exact ⟨rfl,⟨R,HE.out,hRn.out,K1.out⟩,K2.out⟩
end Go.Proofs.YtpccljaooghafaaGreat
end
section
namespace Go.Proofs.YtpccljaooghafaaGreat.Y
open Go Go.RowKit
set_option maxRecDepth 100000
theorem root_uniq {n a b:Nat} (h1:a*a≤n) (h2:n<(a+1)*(a+1)) (k1:b*b≤n) (k2:n<(b+1)*(b+1)):a=b:=by
 rcases Nat.lt_trichotomy a b with h | h | h
 · have:(a+1)*(a+1)≤b*b:=Nat.mul_le_mul h h
   omega
 · exact h
 · have:(b+1)*(b+1)≤a*a:=Nat.mul_le_mul h h
   omega
def eSqrt {m:Int} {n r:Nat} (i p k:Nat) (hm:m=(n:Int)) (h1:r*r≤n) (h2:n<(r+1)*(r+1)) (hn:(dig (5*n)).length≤4294967296):Ev Tryz.prog:=.fill 390 Tryz.call390 (fun β=>#[.pointer (some ⟨(β i).b,0,none⟩),.pointer ((β k).v 0)]) [(k,(intT m).ob)] i 2 p (intT (r:Int))
 (fun β w h ho hs=>by
  obtain ⟨b,hb,kb⟩:=needI (n:=m) (k:=k) h (by simp)
  simp only [hb.1]
  rw [hm] at kb
  refine (Sqrt_any hs kb hn).mono fun e w' ⟨he,⟨r',k1,k2,k3⟩,k4⟩=>?_
  rw [root_uniq h1 h2 k1 k2]
  exact ⟨he,⟨_,ho.at1,k3⟩,k4⟩)
def fSqrt {m:Int} {n r:Nat} (hm:m=(n:Int)) (h1:r*r≤n) (h2:n<(r+1)*(r+1)) (hn:(dig (5*n)).length≤4294967296):Ev Tryz.prog:=dyn2 fun i p k=>eSqrt i p k hm h1 h2 hn
def mkI:Ev Tryz.prog:=dynMk 163 2
theorem cmp_root {x y:Rat} {t:Bool} (h:decide (x=y)=t):Value.bool (cmpQ x y==0)=.bool t:=by
 rw [← h]
 congr 1
 rw [Bool.eq_iff_iff,beq_iff_eq,decide_eq_true_iff]
 unfold cmpQ
 constructor
 · intro h
   by_cases a:x<y
   · rw [if_pos a] at h; exact absurd h (by decide)
   · by_cases b:y<x
     · rw [if_neg a,if_pos b] at h; exact absurd h (by decide)
     · exact Rat.le_antisymm (Rat.not_lt.1 b) (Rat.not_lt.1 a)
 · rintro rfl
   rw [if_neg Rat.lt_irrefl,if_neg Rat.lt_irrefl]
theorem nat_sign {m:Int} {n:Nat} (h:m=(n:Int)):Value.bool (decide (m.sign<0))=.bool false:=by
 rw [h]
 cases n<;>rfl
def alOf (ob:List Ob) (j:Nat):Nat:=match ob[j]? with
 | some (.al i _)=>i
 | _=>0
theorem one_at {g:Pl} {b:Nat} (h:g.one) (k:At1 g b):b=g.b:=((k.2 g.b).1 ((h.1 _).2 rfl)).symm
end Go.Proofs.YtpccljaooghafaaGreat.Y
end
section
namespace Go.Proofs.YtpccljaooghafaaGreat
open Go.RowKit
theorem fracV_inj {x y:Rat} (h:fracV x=fracV y):x=y:=by
 obtain ⟨h1,h2,_,h4⟩:=agg4 h
 have e1:x.num=y.num:=sg_inj h1 (mag_inj h2)
 have e2:x.den=y.den:=mag_inj h4
 exact Rat.ext e1 e2
theorem cmpQ_zero {x y:Rat}:cmpQ x y=0↔x=y:=by
 unfold cmpQ
 constructor
 · intro h
   split at h
   · cases h
   · split at h
     · cases h
     · rename_i h1 h2
       exact Rat.le_antisymm (Rat.not_lt.1 h2) (Rat.not_lt.1 h1)
 · rintro rfl
   rw [if_neg (Rat.lt_irrefl),if_neg (Rat.lt_irrefl)]
end Go.Proofs.YtpccljaooghafaaGreat
end
section
namespace Go.Proofs.YtpccljaooghafaaGreat.Y
open Go Go.RowKit
set_option maxRecDepth 100000
def z4:List Lf:=[.b (.v (.bool false)),.b (.v (.slice none 0 0)),.b (.v (.bool false)),.b (.v (.slice none 0 0))]
theorem RatAt.zero {w:World} {b:Nat} (hb:w.heap[b]?=some (.cells #[.bool false,.slice none 0 0,.bool false,.slice none 0 0] 165 (0,0))):RatAt w b 0 0:=by
 refine ⟨⟨_,_,hb,by decide,by simp⟩,⟨⟨_,_,hb,by decide,by simp⟩,?_,.slice none 0 0,?_,?_⟩,0,⟨⟨_,_,hb,by decide,by simp⟩,?_,.slice none 0 0,?_,?_⟩,.inr ⟨rfl,rfl⟩⟩
 · rw [cell_of_row _ _ _ _ _ _ hb]; rfl
 · rw [cell_of_row _ _ _ _ _ _ hb]; rfl
 · rw [show (0:Rat).num=0 from rfl,Int.natAbs_zero,dig_zero]; exact Words.nil _
 · rw [cell_of_row _ _ _ _ _ _ hb]; rfl
 · rw [cell_of_row _ _ _ _ _ _ hb]; rfl
 · rw [Int.natAbs_zero,dig_zero]; exact Words.nil _
theorem okr0:Sz KB (0:Rat):=sz_zero.mono (by decide)
def eSum0 {y:Rat} (i n k:Nat) (hy:Sz KB y):Ev Tryz.prog:=.refill 144 Tryz.call144 (fun β=>#[.pointer (some ⟨(β i).b,0,none⟩),.pointer (some ⟨(β i).b,0,none⟩),.pointer ((β k).v 0)]) [(i,.box z4 165),(k,(ratT y).ob)] i i 4 n (ratT (0+y))
 (fun β w h hji ho hs=>by
  have hb:(Ob.box z4 165).holds β w (β i):=h (i,.box z4 165) (by simp)
  obtain ⟨b,hb2,kb⟩:=needP (x:=y) (k:=k) h (by simp)
  simp only [hb2.1]
  exact fillP ho (rAdd_any hs (RatAt.zero hb.2) kb (okr0.okR2 (by decide)) (hy.okR2 (by decide))))
def eSumP {x y:Rat} (i j n k:Nat) (hx:Sz KB x) (hy:Sz KB y):Ev Tryz.prog:=.refill 144 Tryz.call144 (fun β=>#[.pointer (some ⟨(β i).b,0,none⟩),.pointer (some ⟨(β i).b,0,none⟩),.pointer ((β k).v 0)]) [(j,(ratT x).ob),(k,(ratT y).ob)] i j 4 n (ratT (x+y))
 (fun β w h hji ho hs=>by
  obtain ⟨a,ha,ka⟩:=needP (x:=x) (k:=j) h (by simp)
  obtain ⟨b,hb,kb⟩:=needP (x:=y) (k:=k) h (by simp)
  have e:=one_at ho (hji▸ha)
  subst e
  simp only [hb.1]
  exact fillP ho (rAdd_any hs ka kb (hx.okR2 (by decide)) (hy.okR2 (by decide))))
def eSumZ {x y:Rat} (i j n k:Nat) (hx:Sz KB x) (hy:Sz KB y):Ev Tryz.prog:=.refill 144 Tryz.call144 (fun β=>#[.pointer ((β j).v 0),.pointer ((β j).v 0),.pointer ((β k).v 0)]) [(j,(ratT x).ob),(k,(ratT y).ob)] i j 4 n (ratT (x+y))
 (fun β w h hji ho hs=>by
  obtain ⟨a,ha,ka⟩:=needP (x:=x) (k:=j) h (by simp)
  obtain ⟨b,hb,kb⟩:=needP (x:=y) (k:=k) h (by simp)
  have e:=one_at ho (hji▸ha)
  subst e
  simp only [ha.1,hb.1]
  exact fillP ho (rAdd_any hs ka kb (hx.okR2 (by decide)) (hy.okR2 (by decide))))
def sum0 {y:Rat} (hy:Sz KB y):Ev Tryz.prog:=.dyn (fun o _ _=>isCallB o) fun _ xs ob=>lit ob.length fun n=>lit (ptOf (xs.getD 0 undefS)) fun i=>lit (ptOf (xs.getD 2 undefS)) fun k=>eSum0 i n k hy
def sumN {x y:Rat} (hx:Sz KB x) (hy:Sz KB y):Ev Tryz.prog:=.dyn (fun o _ _=>isCallB o) fun _ xs ob=>lit ob.length fun n=>lit (ptOf (xs.getD 2 undefS)) fun k=>match xs.getD 0 undefS with
 | .one (.c (.b (.p i _)))=>lit i fun i=>lit ((findA i ob 0).getD 0) fun j=>eSumP i j n k hx hy
 | .one (.c (.b (.z j _)))=>lit j fun j=>lit (alOf ob j) fun i=>eSumZ i j n k hx hy
 | _=>.eqv 0 undef undef rfl
abbrev KD5:Nat:=5000
section
variable {f g h:Nat→Rat} (hf:∀ n,Sz KD5 (f n)) (hg:∀ n,Sz KD5 (g n)) (hh:∀ n,Sz KD5 (h n))
theorem mone8:Sz 8 (Rat.divInt (-1) 1):=sz_lit (-1) 1 (by decide) (by decide) (by decide)
end
theorem sq_sum {x y:Rat} (h:x*x+y*y=0):x=0∧y=0:=by
 have hn:∀ z:Rat,0≤z*z:=fun z=>by
  rcases Rat.le_total (a:=0) (b:=z) with h | h
  · exact Rat.mul_nonneg h h
  · have:=Rat.mul_nonneg (a:=-z) (b:=-z) (by grind) (by grind)
    grind
 have h1:=hn x
 have h2:=hn y
 have e1:x*x=0:=by grind
 have e2:y*y=0:=by grind
 exact ⟨by rcases Rat.mul_eq_zero.1 e1 with h | h<;>exact h,by rcases Rat.mul_eq_zero.1 e2 with h | h<;>exact h⟩
def sR3Small (n m:Int) (hn : -9223372036854775808≤n∧n≤9223372036854775807) (hm : -9223372036854775808≤m∧m≤9223372036854775807) (h0:m≠0) (sn:sz n≤1000000000) (sm:sz m≤1000000000):Spec Tryz.prog :=
 Spec.auto Tryz.call27 [.one (svI n),.one (svI m)] [] (.one (.a (fC (Rat.divInt n m)))) [] [eWOf n hn,eWOf m hm,eFOf sn sm h0] [] 400 Tryz.func27 hmA (by kernel_rfl) (fun β=>by kernel_rfl)
def sETwice {x:Rat} (hx:Sz KB x):Spec Tryz.prog :=
 Spec.auto Tryz.call352 [rV 0] [ratT x] (rV 1) [ratT (x+x)] [mkR,fAdd hx hx] [] 400 Tryz.func352 hmA (by kernel_rfl) (fun β=>by kernel_rfl)
abbrev KS3:Nat:=10000000
noncomputable def sSum3 {x y z:Rat} (hx:Sz KS3 x) (hy:Sz KS3 y) (hz:Sz KS3 z):OSpec Tryz.prog :=
 OSpec.auto Tryz.call351 [.one (.c (.b (.s 3 0 3 3)))] [(ratT x).ob,(ratT y).ob,(ratT z).ob,.box [.b (.z 0 0),.b (.z 1 0),.b (.z 2 0)] 149] (rV 4) [0+x+y+z]
  [sum0 (hx.mono (by decide)),sumN ((sz_zero.add hx).mono (by decide)) (hy.mono (by decide)),sumN (((sz_zero.add hx).add hy).mono (by decide)) (hz.mono (by decide))] [] 800 Tryz.func351 hmA (by kernel_rfl) (fun β=>by kernel_rfl)
def valQ (r:RQ) (z:GQ):Rat:=0+r.a*gnorm z+((gmul r.b z).re+(gmul r.b z).re)+r.c
noncomputable def sValue {r:RQ} {z:GQ} (h:RSz KC r) (hz:GSz KC z):Spec Tryz.prog :=
 Spec.auto Tryz.call375 [rgV 0,nV 4] (rgT r++gM z) (rV 6) [ratT (valQ r z)]
  [(sMul (h.b.mono (by decide)) (hz.mono (by decide))).e,(sParts (gmul r.b z)).e,(sNorm (hz.mono (by decide))).e,(sMulR (h.a.mono (by decide)) (hz.norm.mono (by decide))).e,(sETwice ((h.b.mul hz).1.mono (by decide))).e,
   (sSum3 ((h.a.mul hz.norm).mono (by decide)) (((h.b.mul hz).1.add (h.b.mul hz).1).mono (by decide)) (h.c.mono (by decide))).e] [(2,12)] 800 Tryz.func375 hmA (by kernel_rfl) (fun β=>by kernel_rfl)
def sidQ (r:RQ):Pt→Rat
 | .inf=>r.a
 | .fin z=>valQ r z
noncomputable def sESide {r:RQ} {p:Pt} (h:RSz KC r) (hp:FitP p):Spec Tryz.prog :=
 ⟨281,Tryz.call281,[rgV 0,pV 4 p],rgT r++pM p,.one (nI' (sidQ r p).num.sign),[],fun β w hh=>by
  cases p with
  | inf=>exact spec_auto (args:=[rgV 0,pV 4 .inf]) (obs:=rgT r++pM .inf) (evs:=[nSign (x:=r.a) rfl]) (Ns:=[]) (m:=400) Tryz.func281 hmA (fun β=>by kernel_rfl) (by kernel_rfl) β w hh
  | fin z=>exact spec_auto (args:=[rgV 0,pV 4 (.fin z)]) (obs:=rgT r++pM (.fin z)) (evs:=[(sValue h (fitG_sz hp |>.mono (by decide))).e,nSign (x:=valQ r z) rfl]) (Ns:=[]) (m:=400) Tryz.func281 hmA (fun β=>by kernel_rfl) (by kernel_rfl) β w hh,by cases p<;>kernel_rfl⟩
theorem cmp_self (x:Rat):cmpQ x x=0:=by
 have h:(!(cmpQ x x==0))=false∨(!(cmpQ x x==0))=true:=by cases (!(cmpQ x x==0))<;>simp
 unfold cmpQ
 simp
theorem gsub_self (z:GQ):gzero (gsub z z)=true:=by
 rw [gz_true]
 refine GQ.ext2 ?_ ?_<;>(simp only [gsub,g0]; grind)
noncomputable def sRSame {r:RQ} (h:RSz KC r):Spec Tryz.prog :=
 Spec.auto Tryz.call346 [rgV 0,rgV 4] (rgT r++rgT r) (tB' true) [] [nCmp (h.a.mono (by decide)) (h.a.mono (by decide)) (cmp_self r.a),(sSame (h.b.mono (by decide)) (h.b.mono (by decide)) (gsub_self r.b)).e,nCmp (h.c.mono (by decide)) (h.c.mono (by decide)) (cmp_self r.c)] [] 400 Tryz.func346 hmA (by kernel_rfl) (fun β=>by kernel_rfl)
structure MayC (r:RQ):Prop where
 fit:FitC r
 pow:decide ((rpow r).num.sign≤0)=false
 one:rone r=r
theorem MayC.sz {r:RQ} (h:MayC r):RSz KC r:=mk_sz h.fit.1 h.fit.2.1 h.fit.2.2
def Spec.newsTo {P:Program} (S:Spec P) (l:List Thing) (h:S.news=l):Spec P :=
 ⟨S.f,S.en,S.args,S.obs,S.res,l,fun β w hh=>by rw [← h]; exact S.ok β w hh,by rw [← h]; exact S.closed⟩
noncomputable def sRNorm1 {r:RQ} (h:MayC r):Spec Tryz.prog :=
 (sRNormal h.sz rfl rfl (rby_ne h.pow)).newsTo (rgT r) (by show rgT (rone r)=rgT r; rw [h.one])
noncomputable def sWheel {r:RQ} (h:MayC r):Spec Tryz.prog :=
 Spec.auto Tryz.call234 [.one (.a (cC r))] [] (.tup [.a [.b (.z 0 0),.b (.z 1 0),.b (.z 2 0),.b (.z 3 0)],.c (.b (.v (.bool true)))]) (rgT r)
  [(ofG h.fit.2.1).e,(sRatIn h.fit.1).e,(sRatIn h.fit.2.2).e,dEq r.a,dEq r.c,(sPower h.sz).e,nSign (x:=rpow r) rfl,.eqv 37 (.bool (decide ((rpow r).num.sign≤0))) (.bool false) (sgn_le h.pow),(sRNorm1 h).e,(sRSame h.sz).e] [(2,9),(5,5)] 1200 Tryz.func234 hmA (by kernel_rfl) (fun β=>by kernel_rfl)
noncomputable def sCCheck {r:RQ} (h:MayC r):Spec Tryz.prog :=
 Spec.auto Tryz.call97 [.one (.a (cC r))] [] (.one (nI' 0)) [] [(sWheel h).e] [] 400 Tryz.func97 hmA (by kernel_rfl) (fun β=>by kernel_rfl)
theorem den_three (β:Env) (n:Nat) (b:Bool) (p q:Pl):(SV.one (.a [.b (.v (.bool b)),.b (.z n 0),.b (.z (n+1) 0)])).den (extE β n [p,q])=.agg #[.bool b,.pointer (p.v 0),.pointer (q.v 0)]:=by
 have h1:=extE_in (β:=β) (n:=n) (i:=0) (xs:=[p,q]) rfl
 have h2:=extE_in (β:=β) (n:=n) (i:=1) (xs:=[p,q]) rfl
 rw [Nat.add_zero] at h1
 simp [SV.den,SC.den,Lf.den,Lf0.den,h1,h2]
def rdPlace (d t:Nat) (e:TypeId) (cs:List Cd) (o:Nat) (b:Bool) (x y:Rat) (hb:cs[o]?=some (.v (.bool b))) (hx:cs[o+1]?=some (.r x)) (hy:cs[o+2]?=some (.r y)) (k n:Nat):Ev Tryz.prog :=
 .rd d (.load 190 (.tmp t)) (fun β=>[.pointer (some ⟨(β k).b,o,none⟩)]) [(k,(rowT e cs).ob)] n (.one (.a [.b (.v (.bool b)),.b (.z n 0),.b (.z (n+1) 0)])) [ratM x,ratM y] (fun β w h ρ op ho hx'=>by
  have h1:RW e cs w (β k):=h (k,(rowT e cs).ob) (by simp)
  have h2:ρ (.tmp t)=.pointer (some ⟨(β k).b,o,none⟩):=by simpa [Op.operands] using hx'
  have p1:=cdOk_at h1.2.1.1 hx
  have p2:=cdOk_at h1.2.1.1 hy
  rw [Nat.zero_add] at p1 p2
  refine ⟨[cellPl (β k) (o+1),cellPl (β k) (o+2)],w,fun g hg c hc=>.inr ⟨(k,(rowT e cs).ob),by simp,rfl,?_⟩,?_,⟨cellPl_or p1,cellPl_or p2,trivial⟩,Below.refl _ _⟩
  · rcases List.mem_cons.1 hg with rfl | hg
    · exact cellPl_F p1 hc
    · obtain rfl:=List.mem_singleton.1 hg
      exact cellPl_F p2 hc
  · have hr:w.rangeAt (β k).b o [.bool b,.pointer ((β k).v (o+1)),.pointer ((β k).v (o+2))]:=fun j v hv=>by
     match j,hv with
     | 0,hv=>simp only [List.getElem?_cons_zero] at hv; obtain rfl:=Option.some.inj hv; exact rw_cell h1 hb
     | 1,hv=>simp only [List.getElem?_cons_succ,List.getElem?_cons_zero] at hv; obtain rfl:=Option.some.inj hv; exact rw_cell h1 hx
     | 2,hv=>simp only [List.getElem?_cons_succ,List.getElem?_cons_zero] at hv; obtain rfl:=Option.some.inj hv; exact rw_cell h1 hy
     | j+3,hv=>simp at hv
    have hl:=run_loadAt_mid (P:=Tryz.prog) w (β k).b o 190 _ _ hr Tryz.underlying190 (by kernel_rfl) (by kernel_rfl)
    rw [den_three]
    unfold execOp
    rw [ho]
    simp only [h2]
    simp [hl,Result.andThen]
    exact ⟨rfl,rfl⟩)
def dPlace (e:TypeId) (cs:List Cd):Ev Tryz.prog:=.dyn (fun o xs ob=>match o.op with
 | .load T (.tmp _)=>Nat.beq T 190&&isAd (xs.getD 0 undefS)&&(match ob[(adOf (xs.getD 0 undefS)).1]? with | some (.th _)=>true | _=>false)
 | _=>false) fun o xs ob=>match o.op with
 | .load _ (.tmp t)=>lit (adOf (xs.getD 0 undefS)).1 fun k=>lit (adOf (xs.getD 0 undefS)).2 fun off=>lit ob.length fun n=>match hb:cs[off]?,hx:cs[off+1]?,hy:cs[off+2]? with
  | some (.v (.bool b)),some (.r x),some (.r y)=>rdPlace (o.dst.getD 0) t e cs off b x y hb hx hy k n
  | _,_,_=>.eqv 0 undef undef rfl
 | _=>.eqv 0 undef undef rfl
def rdIdxP (d t:Nat) (e:TypeId) (cs:List Cd) (ix:Operand) (n j:Nat) (hj:Nat.blt j n=true) (k:Nat):Ev Tryz.prog :=
 .rd d (.indexAddr 267 (.tmp t) ix) (fun β=>[.slice ((β k).v cs.length) n ((β k).c cs.length),.int .i64 (j:Int)]) [(k,(rowT e cs).ob)] 0 (.one (.c (.b (.p k (j*3))))) [] (fun β w h ρ op ho hx'=>by
  have h1:RW e cs w (β k):=h (k,(rowT e cs).ob) (by simp)
  have h2:ρ (.tmp t)=.slice (some ⟨(β k).b,0,none⟩) n ((β k).c cs.length)∧ρ ix=.int .i64 (j:Int):=by
   rw [h1.2.1.2] at hx'
   simpa [Op.operands] using hx'
  rw [Nat.blt_eq] at hj
  refine ⟨[],w,(fun _ h=>by cases h),?_,trivial,Below.refl _ _⟩
  rw [extE_nil]
  unfold execOp
  rw [ho]
  simp only [h2.1,h2.2]
  have hi:=run_indexAt_slice (P:=Tryz.prog) w 267 ⟨(β k).b,0,none⟩ n ((β k).c cs.length) .i64 (j:Int) (by kernel_rfl)
  have hsz:(sizeOf (Tryz.prog.elem 267)).run Tryz.prog w=.ok 3 w:=by kernel_rfl
  rw [if_pos ⟨by omega,by omega⟩,hsz,Result.andThen_ok,Int.toNat_natCast] at hi
  have ha:(⟨(β k).b,0,none⟩:Addr).add (j*3)=⟨(β k).b,j*3,none⟩:=by
   simp [Addr.add]
   exact fun h=>h.symm
  rw [ha] at hi
  simp only [Sem.run_bind,hi,Result.andThen_ok]
  rfl)
def dIdxP (e:TypeId) (cs:List Cd):Ev Tryz.prog:=.dyn (fun o xs ob=>match o.op with
 | .indexAddr _ (.tmp _) _=>isY (xs.getD 0 undefS)
 | _=>false) fun o xs ob=>match o.op with
 | .indexAddr _ (.tmp t) ix=>lit (yOf (xs.getD 0 undefS)).1 fun k=>lit (yOf (xs.getD 0 undefS)).2 fun n=>lit (intS (xs.getD 1 undefS)) fun j=>if h:Nat.blt j n=true then rdIdxP (o.dst.getD 0) t e cs ix n j h k else .eqv 0 undef undef rfl
 | _=>.eqv 0 undef undef rfl
theorem place_some:(Tryz.prog.info? 190).isSome=true:=by kernel_rfl
noncomputable def appP:AppT Tryz.prog :=
 ⟨267,190,(Tryz.prog.info? 190).get place_some,.agg #[.bool false,.pointer none,.pointer none],3,24,Tryz.underlying267,(Option.some_get place_some).symm,by kernel_rfl,by kernel_rfl,by kernel_rfl,rfl,by decide,by decide⟩
def plCd (p:Pt):List Cd:=[.v (.bool (pI p)),.r (pG p).re,.r (pG p).im]
abbrev PLT:TypeId:=190
theorem pt_no_rat {w:World} {b:Nat} {c0:Value} {b1:Bool} {l:List Value} {t:TypeId} {x:Rat} (h:w.heap[b]?=some (.cells (c0::.bool b1::l).toArray t (0,0))) (k:RatAt w b 0 x):False:=by
 obtain ⟨A,m,cap,_,h1,_⟩:=k.2.1.open_
 have h2:=cell_lay (o:=1) h rfl
 rw [Nat.zero_add,h2] at h1
 cases h1
theorem or_cd {w:World} {g G:Pl} {x:Rat} {i:Nat} (h:OR0 x w g) (hv:G.v i=g.v 0) (hF:∀ c,g.F c→G.F c):cdP w G i (.r x):=by
 rcases h with ⟨h1,_,h3⟩ | ⟨b,h1,h2⟩
 · exact .inl ⟨hv.trans h1,h3⟩
 · exact .inr ⟨b,hv.trans h1.1,hF b ((h1.2 b).2 rfl),h2⟩
abbrev pl2 (p0 p1:Pt):List Cd:=plCd p0++plCd p1
theorem sgn_ne {n:Int} {t:Bool} (h:(!(n==0))=t):Value.bool (!(n==0))=.bool t:=by rw [h]
noncomputable def sOn1 {r:RQ} {p:Pt} (h:RSz KC r) (hp:FitP p) {t:Bool} (ht:(!((sidQ r p).num.sign==0))=t):OSpec Tryz.prog :=
 OSpec.auto Tryz.call280 [pV 0 p,.one (.c (.b (.p 6 0)))] [(ratM (pG p).re).ob,(ratM (pG p).im).ob,(ratT r.a).ob,(ratT r.b.re).ob,(ratT r.b.im).ob,(ratT r.c).ob,.box [.b (.z 2 0),.b (.z 3 0),.b (.z 4 0),.b (.z 5 0)] 252] (tB' t) []
  [(sESide h hp).e,.eqv 7 (.bool (!((sidQ r p).num.sign==0))) (.bool t) (sgn_ne ht)] [] 400 Tryz.func280 hmA (by cases p<;>kernel_rfl) (fun β=>by cases p<;>kernel_rfl)
section
variable {r:RQ} {p q:Pt} (h:RSz KC r) (hp:FitP p) (hq:FitP q) (h1:(!((sidQ r p).num.sign==0))=false) (h2:(!((sidQ r q).num.sign==0))=false)
abbrev onO (r:RQ) (l:List Cd):List Ob:=[(rowT PLT l).ob,(ratT r.a).ob,(ratT r.b.re).ob,(ratT r.b.im).ob,(ratT r.c).ob,.box [.b (.z 1 0),.b (.z 2 0),.b (.z 3 0),.b (.z 4 0)] 252]
abbrev onF:SV:=.one (.c (.f (.func 280) [] [.p 5 0]))
noncomputable def sIdx2:OSpec Tryz.prog :=
 OSpec.auto Tryz.call374 [.one (.c (.b (.y 0 6 2))),onF] (onO r (pl2 p q)) (.one (nI' (-1))) []
  [dIdxP PLT (pl2 p q),dPlace PLT (pl2 p q),(sOn1 h hp h1).e,dIdxP PLT (pl2 p q),dPlace PLT (pl2 p q),(sOn1 h hq h2).e] [] 800 Tryz.func374 hmA (by kernel_rfl) (fun β=>by kernel_rfl)
noncomputable def sHas2:OSpec Tryz.prog :=
 OSpec.auto Tryz.call279 [.one (.c (.b (.y 0 6 2))),onF] (onO r (pl2 p q)) (tB' false) [] [(sIdx2 h hp hq h1 h2).e] [] 400 Tryz.func279 hmA (by kernel_rfl) (fun β=>by kernel_rfl)
end
abbrev ptI (n m:Int):Pt:=.fin (gint n m)
theorem ptI_fit {n m:Int} (h:n.natAbs<256) (k:m.natAbs<256):FitP (ptI n m):=fit_int h k
theorem rq_lit {r s:RQ} (h1:decide (r.a=s.a)=true) (h2:decide (r.b.re=s.b.re)=true) (h3:decide (r.b.im=s.b.im)=true) (h4:decide (r.c=s.c)=true):r=s:=by
 obtain ⟨a,⟨b,b'⟩,c⟩:=r
 obtain ⟨d,⟨e,e'⟩,f⟩:=s
 obtain rfl:a=d:=of_decide_eq_true h1
 obtain rfl:b=e:=of_decide_eq_true h2
 obtain rfl:b'=e':=of_decide_eq_true h3
 obtain rfl:c=f:=of_decide_eq_true h4
 rfl
noncomputable def eFQuo {x y:Rat} (i n k j:Nat) (hx:Sz KB x) (hy:Sz KB y) (h0:y≠0):Ev Tryz.prog:=.fill 188 Tryz.call188 (fun β=>#[.pointer (some ⟨(β i).b,0,none⟩),.pointer ((β k).v 0),.pointer ((β j).v 0)]) [(k,(ratT x).ob),(j,(ratT y).ob)] i 4 n (ratT (x/y))
 (fun β w h ho hs=>by
  obtain ⟨a,ha,ka⟩:=needP (x:=x) (k:=k) h (by simp)
  obtain ⟨b,hb,kb⟩:=needP (x:=y) (k:=j) h (by simp)
  simp only [ha.1,hb.1]
  exact fillP ho (rQuo_any hs ka kb (hx.okR2 (by decide)) (hy.okR2 (by decide)) h0))
noncomputable def fQuo {x y:Rat} (hx:Sz KB x) (hy:Sz KB y) (h0:y≠0):Ev Tryz.prog:=dyn3 fun i n k j=>eFQuo i n k j hx hy h0
theorem div_sz {i j:Nat} {x y:Rat} (hx:Sz i x) (hy:Sz j y) (h0:y≠0):Sz (i+j) (x/y):=by
 rw [Rat.div_def]
 exact hx.mul (hy.inv h0)
section
variable {x y:Rat} (hx:Sz KB x) (hy:Sz KB y)
noncomputable def sMtAdd:Spec Tryz.prog:=Spec.auto Tryz.call361 [rV 0,rV 1] [ratT x,ratT y] (rV 2) [ratT (x+y)] [mkR,fAdd hx hy] [] 400 Tryz.func361 hmA (by kernel_rfl) (fun β=>by kernel_rfl)
noncomputable def sMtSub:Spec Tryz.prog:=Spec.auto Tryz.call357 [rV 0,rV 1] [ratT x,ratT y] (rV 2) [ratT (x-y)] [mkR,fSub hx hy] [] 400 Tryz.func357 hmA (by kernel_rfl) (fun β=>by kernel_rfl)
noncomputable def sMtMul:Spec Tryz.prog:=Spec.auto Tryz.call271 [rV 0,rV 1] [ratT x,ratT y] (rV 2) [ratT (x*y)] [mkR,fMul hx hy] [] 400 Tryz.func271 hmA (by kernel_rfl) (fun β=>by kernel_rfl)
noncomputable def sMtQuo (h0:y≠0):Spec Tryz.prog:=Spec.auto Tryz.call267 [rV 0,rV 1] [ratT x,ratT y] (rV 2) [ratT (x/y)] [mkR,fQuo hx hy h0] [] 400 Tryz.func267 hmA (by kernel_rfl) (fun β=>by kernel_rfl)
end
noncomputable def sMtNum (n:Int) (hn : -9223372036854775808≤n∧n≤9223372036854775807:=by decide):Spec Tryz.prog :=
 Spec.auto Tryz.call270 [.one (svI n)] [] (rV 0) [ratT (Rat.divInt n 1)] [nNew n 1 hn (by decide) (by decide)] [] 400 Tryz.func270 hmA (by kernel_rfl) (fun β=>by kernel_rfl)
abbrev KF:Nat:=50000
theorem n2_sz:Sz 8 (Rat.divInt 2 1):=sz_lit 2 1 (by decide) (by decide) (by decide)
theorem n2_ne:(Rat.divInt 2 1:Rat)≠0:=of_decide_eq_true (by kernel_rfl:decide ((Rat.divInt 2 1:Rat)≠0)=true)
theorem m2_ne:(Rat.divInt (-2) 1:Rat)≠0:=of_decide_eq_true (by kernel_rfl:decide ((Rat.divInt (-2) 1:Rat)≠0)=true)
def fpr (f g:RQ):Rat:=f.b.re*g.b.re+f.b.im*g.b.im-(f.a*g.c+f.c*g.a)/Rat.divInt 2 1
abbrev psz (j k:Nat):Nat:=j+k+(j+k)+1+(j+k+(j+k)+1+8)+1
theorem fpr_sz {j k:Nat} {f g:RQ} (hf:RSz j f) (hg:RSz k g):Sz (psz j k) (fpr f g) :=
 ((hf.b.1.mul hg.b.1).add (hf.b.2.mul hg.b.2)).sub (div_sz ((hf.a.mul hg.c).add (hf.c.mul hg.a)) n2_sz n2_ne)
noncomputable def sMtProd {f g:RQ} (hf:RSz KF f) (hg:RSz KF g):Spec Tryz.prog :=
 Spec.auto Tryz.call268 [rgV 0,rgV 4] (rgT f++rgT g) (rV 8) [ratT (fpr f g)]
  [(sMtMul (hf.b.1.mono (by decide)) (hg.b.1.mono (by decide))).e,(sMtMul (hf.b.2.mono (by decide)) (hg.b.2.mono (by decide))).e,(sMtAdd ((hf.b.1.mul hg.b.1).mono (by decide)) ((hf.b.2.mul hg.b.2).mono (by decide))).e,
   (sMtMul (hf.a.mono (by decide)) (hg.c.mono (by decide))).e,(sMtMul (hf.c.mono (by decide)) (hg.a.mono (by decide))).e,(sMtAdd ((hf.a.mul hg.c).mono (by decide)) ((hf.c.mul hg.a).mono (by decide))).e,(sMtNum 2).e,
   (sMtQuo (((hf.a.mul hg.c).add (hf.c.mul hg.a)).mono (by decide)) (n2_sz.mono (by decide)) n2_ne).e,
   (sMtSub (((hf.b.1.mul hg.b.1).add (hf.b.2.mul hg.b.2)).mono (by decide)) ((div_sz ((hf.a.mul hg.c).add (hf.c.mul hg.a)) n2_sz n2_ne).mono (by decide))).e]
  [(1,12),(2,16)] 600 Tryz.func268 hmA (by kernel_rfl) (fun β=>by kernel_rfl)
def pls (f g:RQ) (s t:Rat):RQ:=⟨s*f.a+t*g.a,⟨s*f.b.re+t*g.b.re,s*f.b.im+t*g.b.im⟩,s*f.c+t*g.c⟩
theorem pls_sz {i j k l:Nat} {f g:RQ} {s t:Rat} (hf:RSz i f) (hg:RSz j g) (hs:Sz k s) (ht:Sz l t):RSz (k+i+(l+j)+1) (pls f g s t) :=
 ⟨(hs.mul hf.a).add (ht.mul hg.a),⟨(hs.mul hf.b.1).add (ht.mul hg.b.1),(hs.mul hf.b.2).add (ht.mul hg.b.2)⟩,(hs.mul hf.c).add (ht.mul hg.c)⟩
noncomputable def plE {x y s t:Rat} (hx:Sz KF x) (hy:Sz KF y) (hs:Sz KF s) (ht:Sz KF t):List (Ev Tryz.prog) :=
 [(sMtMul (hs.mono (by decide)) (hx.mono (by decide))).e,(sMtMul (ht.mono (by decide)) (hy.mono (by decide))).e,(sMtAdd ((hs.mul hx).mono (by decide)) ((ht.mul hy).mono (by decide))).e]
noncomputable def sMtPlus {f g:RQ} {s t:Rat} (hf:RSz KF f) (hg:RSz KF g) (hs:Sz KF s) (ht:Sz KF t):Spec Tryz.prog :=
 Spec.auto Tryz.call269 [rgV 0,rgV 4,rV 8,rV 9] (rgT f++rgT g++[ratT s,ratT t]) (rgV 10) (rgT (pls f g s t))
  (plE hf.a hg.a hs ht++plE hf.b.1 hg.b.1 hs ht++plE hf.b.2 hg.b.2 hs ht++plE hf.c hg.c hs ht) [(5,13)] 1200 Tryz.func269 hmA (by kernel_rfl) (fun β=>by kernel_rfl)
theorem rpow_fpr (f:RQ):fpr f f=rpow f:=by
 have h:(Rat.divInt 2 1:Rat)=2:=of_decide_eq_true (by kernel_rfl:decide ((Rat.divInt 2 1:Rat)=2)=true)
 unfold fpr rpow gnorm
 rw [h]
 grind
noncomputable def quE {x y:Rat} (hx:Sz KF x) (hy:Sz KF y) (h0:y≠0):List (Ev Tryz.prog):=[(sMtQuo (hx.mono (by decide)) (hy.mono (by decide)) h0).e,(sFrac ((div_sz hx hy h0).mono (by decide))).e]
theorem ansK_lit {x:Rat} {k:Int} (h:ansK x=k):Value.int .i64 (ansK x)=.int .i64 k:=by rw [h]
noncomputable def quY {x y:Rat} (hx:Sz KF x) (hy:Sz KF y) (h0:y≠0) (h:ansK (x/y)=0):List (Ev Tryz.prog):=quE hx hy h0++[.eqv 40 (.int .i64 (ansK (x/y))) (.int .i64 0) (ansK_lit h)]
noncomputable def quN {x y:Rat} (hx:Sz KF x) (hy:Sz KF y) (h0:y≠0) (h:ansK (x/y)=4):List (Ev Tryz.prog):=quE hx hy h0++[.eqv 40 (.int .i64 (ansK (x/y))) (.int .i64 4) (ansK_lit h)]
theorem sign_ne {x:Rat} {b:Bool} (h:decide (x=0)=b):(Value.bool (!(x.num.sign==0)))=.bool (!b):=by
 have:=sign_lit h
 injection this with h2
 rw [h2]
noncomputable def byE (f:RQ):(i j:Bool)→decide (f.a=0)=i→decide (f.b.re=0)=j→rbyQ i j f≠0→List (Ev Tryz.prog)
 | false,_,hi,_,_=>[nSign (x:=f.a) rfl,.eqv 26 (.bool (!(f.a.num.sign==0))) (.bool true) (sign_ne hi)]
 | true,false,hi,hj,_=>[nSign (x:=f.a) rfl,.eqv 26 (.bool (!(f.a.num.sign==0))) (.bool false) (sign_ne hi),nSign (x:=f.b.re) rfl,.eqv 26 (.bool (!(f.b.re.num.sign==0))) (.bool true) (sign_ne hj)]
 | true,true,hi,hj,h0=>[nSign (x:=f.a) rfl,.eqv 26 (.bool (!(f.a.num.sign==0))) (.bool false) (sign_ne hi),nSign (x:=f.b.re) rfl,.eqv 26 (.bool (!(f.b.re.num.sign==0))) (.bool false) (sign_ne hj),
   nSign (x:=f.b.im) rfl,.eqv 26 (.bool (!(f.b.im.num.sign==0))) (.bool true) (sign_ne (decide_eq_false h0))]
noncomputable def poE {f:RQ} (h:RSz KF f) {b:Bool} (hp:decide ((fpr f f).num.sign≤0)=b):List (Ev Tryz.prog):=[(sMtProd h h).e,nSign (x:=fpr f f) rfl,.eqv 16 (.bool (decide ((fpr f f).num.sign≤0))) (.bool b) (sgn_le hp)]
theorem circle_ok {f:RQ} (h:RSz KF f) {i j:Bool} (hi:decide (f.a=0)=i) (hj:decide (f.b.re=0)=j) (h0:rbyQ i j f≠0) (hp:decide ((fpr f f).num.sign≤0)=false) (β:Env) (w:World) (hh:∀ (k:Nat) (t:Thing),(rgT f)[k]?=some t→t.D w (β k)) :
  Calls Tryz.prog 371 (([rgV 0]:List SV).map (SV.den β)).toArray w fun e w'=>∃ xs:List Pl,freshS β w 4 xs∧e=.returned ((ciA (rqd f (rbyQ i j f))).den (extE β 4 xs))∧newHold w' [] xs∧Below w.heap.size w w':=by
 have hb:=rby_sz h i j
 have hN:∀ {x:Rat},¬ Fit x→ansK x=4:=fun hx=>if_neg hx
 have hY:∀ {x:Rat},Fit x→ansK x=0:=fun hx=>if_pos hx
 by_cases h1:Fit (f.a/rbyQ i j f)
 · by_cases h2:Fit (f.b.re/rbyQ i j f)
   · by_cases h3:Fit (f.b.im/rbyQ i j f)
     · by_cases h4:Fit (f.c/rbyQ i j f)
       · have e:ciA (rqd f (rbyQ i j f))=.tup [.a (fA (f.a/rbyQ i j f)++fA (f.b.re/rbyQ i j f)++fA (f.b.im/rbyQ i j f)++fA (f.c/rbyQ i j f)),nI' 0]:=by
          rw [ciA,(ci_fit (m:=rqd f (rbyQ i j f)) ⟨h1,⟨h2,h3⟩,h4⟩).1,(ci_fit (m:=rqd f (rbyQ i j f)) ⟨h1,⟨h2,h3⟩,h4⟩).2,(fA_fit h1).1,(fA_fit h2).1,(fA_fit h3).1,(fA_fit h4).1]
          rfl
         rw [e]
         cases i
         · exact spec_auto (args:=[rgV 0]) (obs:=rgT f) (news:=[]) (evs:=poE h hp++byE f false j hi hj h0++quY h.a hb h0 (hY h1)++quY h.b.1 hb h0 (hY h2)++quY h.b.2 hb h0 (hY h3)++quY h.c hb h0 (hY h4)) (Ns:=[]) (m:=2000) Tryz.func371 hmA (fun β=>by kernel_rfl) (by kernel_rfl) β w hh
         · cases j<;>exact spec_auto (args:=[rgV 0]) (obs:=rgT f) (news:=[]) (evs:=poE h hp++byE f true _ hi hj h0++quY h.a hb h0 (hY h1)++quY h.b.1 hb h0 (hY h2)++quY h.b.2 hb h0 (hY h3)++quY h.c hb h0 (hY h4)) (Ns:=[]) (m:=2000) Tryz.func371 hmA (fun β=>by kernel_rfl) (by kernel_rfl) β w hh
       · rw [ciA,(ci_not (m:=rqd f (rbyQ i j f)) fun e=>h4 e.2.2).1,(ci_not (m:=rqd f (rbyQ i j f)) fun e=>h4 e.2.2).2]
         cases i
         · exact spec_auto (args:=[rgV 0]) (obs:=rgT f) (news:=[]) (evs:=poE h hp++byE f false j hi hj h0++quY h.a hb h0 (hY h1)++quY h.b.1 hb h0 (hY h2)++quY h.b.2 hb h0 (hY h3)++quN h.c hb h0 (hN h4)) (Ns:=[]) (m:=2000) Tryz.func371 hmA (fun β=>by kernel_rfl) (by kernel_rfl) β w hh
         · cases j<;>exact spec_auto (args:=[rgV 0]) (obs:=rgT f) (news:=[]) (evs:=poE h hp++byE f true _ hi hj h0++quY h.a hb h0 (hY h1)++quY h.b.1 hb h0 (hY h2)++quY h.b.2 hb h0 (hY h3)++quN h.c hb h0 (hN h4)) (Ns:=[]) (m:=2000) Tryz.func371 hmA (fun β=>by kernel_rfl) (by kernel_rfl) β w hh
     · rw [ciA,(ci_not (m:=rqd f (rbyQ i j f)) fun e=>h3 e.2.1.2).1,(ci_not (m:=rqd f (rbyQ i j f)) fun e=>h3 e.2.1.2).2]
       cases i
       · exact spec_auto (args:=[rgV 0]) (obs:=rgT f) (news:=[]) (evs:=poE h hp++byE f false j hi hj h0++quY h.a hb h0 (hY h1)++quY h.b.1 hb h0 (hY h2)++quN h.b.2 hb h0 (hN h3)) (Ns:=[]) (m:=2000) Tryz.func371 hmA (fun β=>by kernel_rfl) (by kernel_rfl) β w hh
       · cases j<;>exact spec_auto (args:=[rgV 0]) (obs:=rgT f) (news:=[]) (evs:=poE h hp++byE f true _ hi hj h0++quY h.a hb h0 (hY h1)++quY h.b.1 hb h0 (hY h2)++quN h.b.2 hb h0 (hN h3)) (Ns:=[]) (m:=2000) Tryz.func371 hmA (fun β=>by kernel_rfl) (by kernel_rfl) β w hh
   · rw [ciA,(ci_not (m:=rqd f (rbyQ i j f)) fun e=>h2 e.2.1.1).1,(ci_not (m:=rqd f (rbyQ i j f)) fun e=>h2 e.2.1.1).2]
     cases i
     · exact spec_auto (args:=[rgV 0]) (obs:=rgT f) (news:=[]) (evs:=poE h hp++byE f false j hi hj h0++quY h.a hb h0 (hY h1)++quN h.b.1 hb h0 (hN h2)) (Ns:=[]) (m:=2000) Tryz.func371 hmA (fun β=>by kernel_rfl) (by kernel_rfl) β w hh
     · cases j<;>exact spec_auto (args:=[rgV 0]) (obs:=rgT f) (news:=[]) (evs:=poE h hp++byE f true _ hi hj h0++quY h.a hb h0 (hY h1)++quN h.b.1 hb h0 (hN h2)) (Ns:=[]) (m:=2000) Tryz.func371 hmA (fun β=>by kernel_rfl) (by kernel_rfl) β w hh
 · rw [ciA,(ci_not (m:=rqd f (rbyQ i j f)) fun e=>h1 e.1).1,(ci_not (m:=rqd f (rbyQ i j f)) fun e=>h1 e.1).2]
   cases i
   · exact spec_auto (args:=[rgV 0]) (obs:=rgT f) (news:=[]) (evs:=poE h hp++byE f false j hi hj h0++quN h.a hb h0 (hN h1)) (Ns:=[]) (m:=2000) Tryz.func371 hmA (fun β=>by kernel_rfl) (by kernel_rfl) β w hh
   · cases j<;>exact spec_auto (args:=[rgV 0]) (obs:=rgT f) (news:=[]) (evs:=poE h hp++byE f true _ hi hj h0++quN h.a hb h0 (hN h1)) (Ns:=[]) (m:=2000) Tryz.func371 hmA (fun β=>by kernel_rfl) (by kernel_rfl) β w hh
noncomputable def mxR (r:RQ) (x:Rat):R4:=bif wtB r then r40 else ciR (rone r) x
noncomputable def mxK (r:RQ):Int:=bif wtB r then 7 else ciK (rone r)
noncomputable abbrev mxC (r:RQ):List Lf:=rL (mxR r (rone r).a)++rL (mxR r (rone r).b.re)++rL (mxR r (rone r).b.im)++rL (mxR r (rone r).c)
theorem mx_no {r:RQ} (h:wtB r=true):mxC r=c0C∧mxK r=7:=⟨by simp only [mxC,mxR,h,cond_true],by rw [mxK,h]; rfl⟩
theorem mx_yes {r:RQ} (h:wtB r=false):mxC r=ciC (rone r)∧mxK r=ciK (rone r):=⟨by simp only [mxC,mxR,h,cond_false],by rw [mxK,h]; rfl⟩
noncomputable abbrev mxA (r:RQ):SV:=.tup [.a (mxC r),nI' (mxK r)]
noncomputable def sMtCircle {f:RQ} (h:RSz KF f):Spec Tryz.prog :=
 ⟨371,Tryz.call371,[rgV 0],rgT f,mxA f,[],fun β w hh=>by
  have hr:decide ((fpr f f).num.sign≤0)=wtB f:=by rw [rpow_fpr]; rfl
  cases hp:wtB f with
  | true =>
   rw [mxA,(mx_no hp).1,(mx_no hp).2]
   exact spec_auto (args:=[rgV 0]) (obs:=rgT f) (news:=[]) (evs:=poE h (hr.trans hp)) (Ns:=[]) (m:=800) Tryz.func371 hmA (fun β=>by kernel_rfl) (by kernel_rfl) β w hh
  | false =>
   rw [mxA,(mx_yes hp).1,(mx_yes hp).2]
   have:=circle_ok h rfl rfl (rby_ne hp) (hr.trans hp) β w hh
   rw [rqd_eq] at this
   exact this,by kernel_rfl⟩
def fsq (f g:RQ):Rat:=fpr f g*fpr f g/(fpr f f*fpr g g)
noncomputable def sMtSq {f g:RQ} (hf:RSz KF f) (hg:RSz KF g) (h0:fpr f f*fpr g g≠0):Spec Tryz.prog :=
 Spec.auto Tryz.call288 [rgV 0,rgV 4] (rgT f++rgT g) (rV 8) [ratT (fsq f g)]
  [(sMtProd hf hg).e,(sMtMul ((fpr_sz hf hg).mono (by decide)) ((fpr_sz hf hg).mono (by decide))).e,(sMtProd hf hf).e,(sMtProd hg hg).e,(sMtMul ((fpr_sz hf hf).mono (by decide)) ((fpr_sz hg hg).mono (by decide))).e,
   (sMtQuo (((fpr_sz hf hg).mul (fpr_sz hf hg)).mono (by decide)) (((fpr_sz hf hf).mul (fpr_sz hg hg)).mono (by decide)) h0).e] [(2,12)] 600 Tryz.func288 hmA (by kernel_rfl) (fun β=>by kernel_rfl)
noncomputable def sMtOf {r:RQ} (h:FitC r):Spec Tryz.prog :=
 Spec.auto Tryz.call247 [.one (.a (cC r))] [] (rgV 0) (rgT r) [(sRatIn h.1).e,(sRatIn h.2.1.1).e,(sRatIn h.2.1.2).e,(sRatIn h.2.2).e] [] 800 Tryz.func247 hmA (by kernel_rfl) (fun β=>by kernel_rfl)
abbrev axQ (f g:RQ):RQ:=pls f g (Rat.divInt 1 1) (Rat.divInt (-1) 1)
abbrev nil4V:SC:=.a [nilL,nilL,nilL,nilL]
def imX (r:RQ) (v w:GQ):Rat:=(gmul (gmul r.b v) (gconj w)).re
def imF (r:RQ) (v w:GQ):Rat:=0+r.a*gnorm v+(imX r v w+imX r v w)+r.c*gnorm w
def imB (r:RQ) (p q u s:GQ):GQ:=gadd (gadd (gadd (gscale (gmul p (gconj q)) r.a) (gmul (gmul r.b p) (gconj s))) (gmul (gconj (gmul r.b q)) u)) (gscale (gmul u (gconj s)) r.c)
def imQ (r:RQ) (n:MQ) (t:Bool):RQ:=⟨imF r n.a n.c,bif t then gconj (imB r n.a n.b n.c n.d) else imB r n.a n.b n.c n.d,imF r n.b n.d⟩
abbrev KR:Nat:=1100
abbrev KV:Nat:=10000
section
variable {r:RQ} (h:RSz KR r) {v w:GQ} (hv:GSz KV v) (hw:GSz KV w)
include h hv in
theorem bv_sz:GSz 23000 (gmul r.b v):=(h.b.mul hv).mono (by decide)
include h hv hw in
theorem bvw_sz:GSz 70000 (gmul (gmul r.b v) (gconj w)):=((bv_sz h hv).mul hw.conj).mono (by decide)
include hv in
theorem nv_sz:Sz 41000 (gnorm v):=hv.norm.mono (by decide)
include h hv hw in
theorem imF_sz:Sz 250000 (imF r v w):=(((sz_zero.add (h.a.mul (nv_sz hv))).add ((bvw_sz h hv hw).1.add (bvw_sz h hv hw).1)).add (h.c.mul (nv_sz hw))).mono (by decide)
noncomputable def sImAt:OSpec Tryz.prog :=
 OSpec.auto Tryz.call350 [nV 0,nV 2,.one (.c (.b (.p 8 0)))] [(ratT v.re).ob,(ratT v.im).ob,(ratT w.re).ob,(ratT w.im).ob,(ratT r.a).ob,(ratT r.b.re).ob,(ratT r.b.im).ob,(ratT r.c).ob,.box [.b (.z 4 0),.b (.z 5 0),.b (.z 6 0),.b (.z 7 0)] 252] (rV 9) [imF r v w]
  [(sMul (h.b.mono (by decide)) (hv.mono (by decide))).e,(sConj w).e,(sMul ((bv_sz h hv).mono (by decide)) (hw.conj.mono (by decide))).e,(sParts (gmul (gmul r.b v) (gconj w))).e,
   (sNorm (hv.mono (by decide))).e,(sMulR (h.a.mono (by decide)) ((nv_sz hv).mono (by decide))).e,(sETwice ((bvw_sz h hv hw).1.mono (by decide))).e,(sNorm (hw.mono (by decide))).e,(sMulR (h.c.mono (by decide)) ((nv_sz hw).mono (by decide))).e,
   (sSum3 ((h.a.mul (nv_sz hv)).mono (by decide)) (((bvw_sz h hv hw).1.add (bvw_sz h hv hw).1).mono (by decide)) ((h.c.mul (nv_sz hw)).mono (by decide))).e] [(1,13),(2,15)] 800 Tryz.func350 hmA (by kernel_rfl) (fun β=>by kernel_rfl)
end
section
variable {r:RQ} (h:RSz KR r) {n:MQ} (hn:MSz KV n)
include h hn in
theorem imS_sz:(GSz 41000 (gmul n.a (gconj n.b))∧GSz 43000 (gscale (gmul n.a (gconj n.b)) r.a))∧(GSz 41000 (gmul n.c (gconj n.d))∧GSz 43000 (gscale (gmul n.c (gconj n.d)) r.c)):=by
 have e1:GSz 41000 (gmul n.a (gconj n.b)):=(hn.a.mul hn.b.conj).mono (by decide)
 have e2:GSz 41000 (gmul n.c (gconj n.d)):=(hn.c.mul hn.d.conj).mono (by decide)
 exact ⟨⟨e1,(e1.scale h.a).mono (by decide)⟩,e2,(e2.scale h.c).mono (by decide)⟩
include h hn in
theorem imT_sz:GSz 120000 (gadd (gscale (gmul n.a (gconj n.b)) r.a) (gmul (gmul r.b n.a) (gconj n.d)))∧GSz 70000 (gmul (gconj (gmul r.b n.b)) n.c)∧GSz 200000 (gadd (gadd (gscale (gmul n.a (gconj n.b)) r.a) (gmul (gmul r.b n.a) (gconj n.d))) (gmul (gconj (gmul r.b n.b)) n.c)):=by
 have e1:GSz 120000 (gadd (gscale (gmul n.a (gconj n.b)) r.a) (gmul (gmul r.b n.a) (gconj n.d))):=((imS_sz h hn).1.2.add (bvw_sz h hn.a hn.d)).mono (by decide)
 have e2:GSz 70000 (gmul (gconj (gmul r.b n.b)) n.c):=((bv_sz h hn.b).conj.mul hn.c).mono (by decide)
 exact ⟨e1,e2,(e1.add e2).mono (by decide)⟩
include h hn in
theorem imB_sz:GSz 260000 (imB r n.a n.b n.c n.d):=((imT_sz h hn).2.2.add (imS_sz h hn).2.2).mono (by decide)
include h hn in
theorem imQ_sz (t:Bool):RSz 260000 (imQ r n t):=by
 refine ⟨(imF_sz h hn.a hn.c).mono (by decide),?_,(imF_sz h hn.b hn.d).mono (by decide)⟩
 cases t
 · exact imB_sz h hn
 · exact (imB_sz h hn).conj
noncomputable def imE:List (Ev Tryz.prog) :=
 [(sConj n.b).e,(sMul (hn.a.mono (by decide)) (hn.b.conj.mono (by decide))).e,(sScale ((imS_sz h hn).1.1.mono (by decide)) (h.a.mono (by decide))).e,
  (sMul (h.b.mono (by decide)) (hn.a.mono (by decide))).e,(sConj n.d).e,(sMul ((bv_sz h hn.a).mono (by decide)) (hn.d.conj.mono (by decide))).e,(sAdd ((imS_sz h hn).1.2.mono (by decide)) ((bvw_sz h hn.a hn.d).mono (by decide))).e,
  (sMul (h.b.mono (by decide)) (hn.b.mono (by decide))).e,(sConj (gmul r.b n.b)).e,(sMul ((bv_sz h hn.b).conj.mono (by decide)) (hn.c.mono (by decide))).e,(sAdd ((imT_sz h hn).1.mono (by decide)) ((imT_sz h hn).2.1.mono (by decide))).e,
  (sConj n.d).e,(sMul (hn.c.mono (by decide)) (hn.d.conj.mono (by decide))).e,(sScale ((imS_sz h hn).2.1.mono (by decide)) (h.c.mono (by decide))).e,(sAdd ((imT_sz h hn).2.2.mono (by decide)) ((imS_sz h hn).2.2.mono (by decide))).e]
end
abbrev unQ (m:MQ) (b:Bool):MQ:=mnormB (mconj (mundo0 m) m.t) b
abbrev imN:List (Nat × Nat):=[(2,27014026013025012015),(4,32),(7,11)]
section
variable {r:RQ} (h:RSz KR r) {m:MQ} (hm:MSz 1024 m) {b:Bool} (hb:gzero (mconj (mundo0 m) m.t).c=b) (h0:gzero (bif b then (mconj (mundo0 m) m.t).d else (mconj (mundo0 m) m.t).c)=false)
include hm h0 in
theorem un_sz:MSz KV (unQ m b):=by
 have e:=(hm.undo0.conj m.t).normB h0
 exact ⟨e.a.mono (by decide),e.b.mono (by decide),e.c.mono (by decide),e.d.mono (by decide)⟩
include h hm hb h0 in
theorem image_ok (hy:rby (imQ r (unQ m b) m.t)≠0) (β:Env) (w:World) (hh:∀ (k:Nat) (t:Thing),(mT m++rgT r)[k]?=some t→t.D w (β k)) :
  Calls Tryz.prog 241 (([mV 0 m,rgV 8]:List SV).map (SV.den β)).toArray w fun e w'=>∃ xs:List Pl,freshS β w 12 xs∧e=.returned ((rgV 12).den (extE β 12 xs))∧newHold w' (rgT (rone (imQ r (unQ m b) m.t))) xs∧Below w.heap.size w w':=by
 have hn:=un_sz hm h0
 obtain ⟨a,b',c,d,t⟩:=m
 cases t
 · exact spec_auto (obs:=mT ⟨a,b',c,d,false⟩++rgT r) (args:=[mV 0 ⟨a,b',c,d,false⟩,rgV 8]) (evs:=(sUndo (hm.mono (by decide)) hb h0).e::imE h hn++[(sImAt h hn.a hn.c).e,(sImAt h hn.b hn.d).e,(sRNormal ((imQ_sz h hn false).mono (by decide)) rfl rfl hy).e]) (Ns:=imN) (m:=1200) Tryz.func241 hmA (fun β=>by kernel_rfl) (by kernel_rfl) β w hh
 · exact spec_auto (obs:=mT ⟨a,b',c,d,true⟩++rgT r) (args:=[mV 0 ⟨a,b',c,d,true⟩,rgV 8]) (evs:=(sUndo (hm.mono (by decide)) hb h0).e::imE h hn++[(sConj (imB r (unQ ⟨a,b',c,d,true⟩ b).a (unQ ⟨a,b',c,d,true⟩ b).b (unQ ⟨a,b',c,d,true⟩ b).c (unQ ⟨a,b',c,d,true⟩ b).d)).e,(sImAt h hn.a hn.c).e,(sImAt h hn.b hn.d).e,(sRNormal ((imQ_sz h hn true).mono (by decide)) rfl rfl hy).e]) (Ns:=imN) (m:=1200) Tryz.func241 hmA (fun β=>by kernel_rfl) (by kernel_rfl) β w hh
end
end Go.Proofs.YtpccljaooghafaaGreat.Y
end
section
namespace Go.Proofs.YtpccljaooghafaaGreat.Y
open Go Go.RowKit
theorem spec_yes {P:Program} (S:Spec P) (ho:S.obs=[]) (hr:S.res=.one (.c (.b (.v (.bool true))))) (w:World):Calls P S.f (S.args.map (SV.den idE)).toArray w fun e w'=>e=.returned (.bool true)∧Below w.heap.size w w':=by
 refine (S.ok idE w (by rw [ho]; intro k t h; simp at h)).mono ?_
 rintro e w' ⟨xs,_,rfl,_,hb⟩
 exact ⟨by rw [hr]; rfl,hb⟩
end Go.Proofs.YtpccljaooghafaaGreat.Y
end
section
namespace Go.Proofs.YtpccljaooghafaaGreat.Y
open Go Go.RowKit
set_option maxRecDepth 100000
def sR4MayG (a:Gn) {r:Bool} (h:a.B=r):Spec Tryz.prog :=
 (sR4May a.gp.a.a a.gp.b.a).as [gnS a] (tB' r) (by
  show [SV.one (.a (a.gp.a.a.C++a.gp.b.a.C))]=[SV.one (.a (rL a.gp.a.r++rL a.gp.b.r))]
  rw [show a.gp.a.a.C=rL a.gp.a.r from a.gp.a.e,show a.gp.b.a.C=rL a.gp.b.r from a.gp.b.e]) (congrArg tB' (a.gpB.trans h))
def any4:List Thing:=[anyT,anyT,anyT,anyT]
abbrev rx0:SC:=.a [.b (.v (.pointer none)),.b (.v (.pointer none)),.b (.v (.pointer none)),.b (.v (.pointer none))]
abbrev rgC (k:Nat):SC:=.a [.b (.z k 0),.b (.z (k+1) 0),.b (.z (k+2) 0),.b (.z (k+3) 0)]
def WheelNo (l:List Lf):Prop:=∀ (β:Env) (w:World),Calls Tryz.prog 234 (([.one (.a l)]:List SV).map (SV.den β)).toArray w fun e w'=>∃ xs:List Pl,freshS β w 0 xs∧e=.returned ((SV.tup [rgC 0,.c (.b (.v (.bool false)))]).den (extE β 0 xs))∧newHold w' any4 xs∧Below w.heap.size w w'
def sWheelNo {l:List Lf} (h:WheelNo l) (hl:l.all (Lf.of fun _=>false)=true):Spec Tryz.prog :=
 ⟨234,Tryz.call234,[.one (.a l)],[],.tup [rgC 0,.c (.b (.v (.bool false)))],any4,fun β w _=>h β w,by
  have:l.all (Lf.of fun k=>Nat.blt k 0)=true:=List.all_eq_true.2 fun x hx=>Lf.of_mono (fun _ hk=>by cases hk) x (List.all_eq_true.1 hl x hx)
  rw [Bool.and_eq_true]
  exact ⟨by rw [List.all_cons,List.all_nil,Bool.and_true]; exact this,by kernel_rfl⟩⟩
theorem nil4 {P:Program} {f:FuncId} {args:Array Value} {w:World} {β:Env}
  (h:Calls P f args w fun e w'=>∃ xs:List Pl,freshS β w 0 xs∧e=.returned ((SV.tup [rx0,.c (.b (.v (.bool false)))]).den (extE β 0 xs))∧newHold w' [] xs∧Below w.heap.size w w') :
  Calls P f args w fun e w'=>∃ xs:List Pl,freshS β w 0 xs∧e=.returned ((SV.tup [rgC 0,.c (.b (.v (.bool false)))]).den (extE β 0 xs))∧newHold w' any4 xs∧Below w.heap.size w w' :=
 h.mono fun e w' ⟨xs,h1,he,h2,h3⟩=>by
  have hn:AN w' nilPl:=fun _ h=>h.elim
  exact ⟨[nilPl,nilPl,nilPl,nilPl],fun x hx c hc=>by
   simp only [List.mem_cons,List.not_mem_nil,or_false,or_self] at hx
   subst hx
   exact hc.elim,by rw [he]; kernel_rfl,⟨hn,hn,hn,hn,trivial⟩,h3⟩
theorem newHoldR4 {w:World} {t1 t2 t3 t4:Thing} {xs:List Pl} (h:newHold w [t1,t2,t3,t4] xs):newHold w any4 xs:=by
 match xs,h with
 | [a,b,c,d],h=>exact ⟨an_of t1.st h.1,an_of t2.st h.2.1,an_of t3.st h.2.2.1,an_of t4.st h.2.2.2.1,trivial⟩
theorem wheelNum (a:Fn) (b:Gn) (c:Fn) (h:(a.B&&(b.B&&c.B))=false):WheelNo (rL a.r++(rL b.x++rL b.y)++rL c.r):=fun β w=>by
 refine nil4 ?_
 have hh:∀ (k:Nat) (t:Thing),([]:List Thing)[k]?=some t→t.D w (β k):=fun k t h=>by simp at h
 cases b with
 | no g hg=>cases a with
  | ok x hx=>cases c with
   | ok y hy=>exact spec_auto (obs:=[]) (news:=[]) (res:=.tup [rx0,.c (.b (.v (.bool false)))]) (evs:=[(sOfW g.a g.b (r:=false) hg).e,(ratFn (.ok x hx)).e,(ratFn (.ok y hy)).e]) (Ns:=[(2,9),(5,5)]) (m:=800) Tryz.func234 hmA (fun β=>by kernel_rfl) (by kernel_rfl) β w hh
   | no k hk=>exact spec_auto (obs:=[]) (news:=[]) (res:=.tup [rx0,.c (.b (.v (.bool false)))]) (evs:=[(sOfW g.a g.b (r:=false) hg).e,(ratFn (.ok x hx)).e,(ratFn (.no k hk)).e]) (Ns:=[(2,9),(5,5)]) (m:=800) Tryz.func234 hmA (fun β=>by kernel_rfl) (by kernel_rfl) β w hh
  | no f hf=>cases c with
   | ok y hy=>exact spec_auto (obs:=[]) (news:=[]) (res:=.tup [rx0,.c (.b (.v (.bool false)))]) (evs:=[(sOfW g.a g.b (r:=false) hg).e,(ratFn (.no f hf)).e,(ratFn (.ok y hy)).e]) (Ns:=[(2,9),(5,5)]) (m:=800) Tryz.func234 hmA (fun β=>by kernel_rfl) (by kernel_rfl) β w hh
   | no k hk=>exact spec_auto (obs:=[]) (news:=[]) (res:=.tup [rx0,.c (.b (.v (.bool false)))]) (evs:=[(sOfW g.a g.b (r:=false) hg).e,(ratFn (.no f hf)).e,(ratFn (.no k hk)).e]) (Ns:=[(2,9),(5,5)]) (m:=800) Tryz.func234 hmA (fun β=>by kernel_rfl) (by kernel_rfl) β w hh
 | ok z hz=>cases a with
  | no f hf=>cases c with
   | ok y hy=>exact spec_auto (obs:=[]) (news:=[]) (res:=.tup [rx0,.c (.b (.v (.bool false)))]) (evs:=[(ofG hz).e,(sRatFn f hf).e,(ratFn (.ok y hy)).e]) (Ns:=[(2,9),(5,5)]) (m:=800) Tryz.func234 hmA (fun β=>by kernel_rfl) (by kernel_rfl) β w hh
   | no k hk=>exact spec_auto (obs:=[]) (news:=[]) (res:=.tup [rx0,.c (.b (.v (.bool false)))]) (evs:=[(ofG hz).e,(sRatFn f hf).e,(ratFn (.no k hk)).e]) (Ns:=[(2,9),(5,5)]) (m:=800) Tryz.func234 hmA (fun β=>by kernel_rfl) (by kernel_rfl) β w hh
  | ok x hx=>cases c with
   | ok=>cases h
   | no f hf=>exact spec_auto (obs:=[]) (news:=[]) (res:=.tup [rx0,.c (.b (.v (.bool false)))]) (evs:=[(ofG hz).e,(sRatIn hx).e,(sRatFn f hf).e,dEq x]) (Ns:=[(2,9),(5,5)]) (m:=800) Tryz.func234 hmA (fun β=>by kernel_rfl) (by kernel_rfl) β w hh
section
variable {r:RQ} (hf:FitC r)
include hf in
theorem fitC_sz:RSz KC r:=mk_sz hf.1 hf.2.1 hf.2.2
include hf in
theorem wheelPow (hp:decide ((rpow r).num.sign≤0)=true):WheelNo (cC r):=fun β w=>by
 refine nil4 ?_
 exact spec_auto (obs:=[]) (news:=[]) (res:=.tup [rx0,.c (.b (.v (.bool false)))]) (evs:=[(ofG hf.2.1).e,(sRatIn hf.1).e,(sRatIn hf.2.2).e,dEq r.a,dEq r.c,(sPower (fitC_sz hf)).e,nSign (x:=rpow r) rfl,.eqv 37 (.bool (decide ((rpow r).num.sign≤0))) (.bool true) (sgn_le hp)]) (Ns:=[(2,9),(5,5)]) (m:=1200) Tryz.func234 hmA (fun β=>by kernel_rfl) (by kernel_rfl) β w (fun k t h=>by simp at h)
theorem cmpQ_ne {x y:Rat} (h:x≠y):cmpQ x y = -1∨cmpQ x y=1:=by
 unfold cmpQ
 by_cases h1:x<y
 · exact .inl (if_pos h1)
 · by_cases h2:y<x
   · exact .inr (by rw [if_neg h1,if_pos h2])
   · exact absurd (Rat.le_antisymm (Rat.not_lt.1 h2) (Rat.not_lt.1 h1)) h
theorem gsub_ne {z w:GQ} (h:z≠w):gzero (gsub z w)=false:=by
 rw [Bool.eq_false_iff]
 intro e
 rw [gz_true] at e
 apply h
 have h1:=congrArg GQ.re e
 have h2:=congrArg GQ.im e
 simp only [gsub,g0] at h1 h2
 exact GQ.ext2 (by grind) (by grind)
theorem cmpQ_same {x y:Rat} (h:x=y):cmpQ x y=0:=by rw [h]; exact cmp_self y
abbrev smO (r s:RQ):List Thing:=rgT s++rgT r
theorem same_ok {r s:RQ} (h:RSz KC r) (k:RSz KC s) (hne:s≠r) (β:Env) (w:World) (hh:∀ (i:Nat) (t:Thing),(smO r s)[i]?=some t→t.D w (β i)) :
  Calls Tryz.prog 346 (([rgV 0,rgV 4]:List SV).map (SV.den β)).toArray w fun e w'=>∃ xs:List Pl,freshS β w 8 xs∧e=.returned ((tB' false:SV).den (extE β 8 xs))∧newHold w' [] xs∧Below w.heap.size w w':=by
 by_cases h1:s.a=r.a
 · by_cases h2:s.b=r.b
   · have h3:s.c≠r.c:=fun h3=>hne (by cases s; cases r; simp only at h1 h2 h3; subst h1 h2 h3; rfl)
     rcases cmpQ_ne h3 with h3 | h3<;>exact spec_auto (args:=[rgV 0,rgV 4]) (obs:=smO r s) (res:=tB' false) (news:=[]) (evs:=[nCmp (k.a.mono (by decide)) (h.a.mono (by decide)) (cmpQ_same h1),(sSame (k.b.mono (by decide)) (h.b.mono (by decide)) (b:=true) (by rw [h2]; exact gsub_self r.b)).e,nCmp (k.c.mono (by decide)) (h.c.mono (by decide)) h3]) (Ns:=[]) (m:=400) Tryz.func346 hmA (fun β=>by kernel_rfl) (by kernel_rfl) β w hh
   · exact spec_auto (args:=[rgV 0,rgV 4]) (obs:=smO r s) (res:=tB' false) (news:=[]) (evs:=[nCmp (k.a.mono (by decide)) (h.a.mono (by decide)) (cmpQ_same h1),(sSame (k.b.mono (by decide)) (h.b.mono (by decide)) (b:=false) (gsub_ne h2)).e]) (Ns:=[]) (m:=400) Tryz.func346 hmA (fun β=>by kernel_rfl) (by kernel_rfl) β w hh
 · rcases cmpQ_ne h1 with h1 | h1<;>exact spec_auto (args:=[rgV 0,rgV 4]) (obs:=smO r s) (res:=tB' false) (news:=[]) (evs:=[nCmp (k.a.mono (by decide)) (h.a.mono (by decide)) h1]) (Ns:=[]) (m:=400) Tryz.func346 hmA (fun β=>by kernel_rfl) (by kernel_rfl) β w hh
def sRSameNo {r s:RQ} (h:RSz KC r) (k:RSz KC s) (hne:s≠r):Spec Tryz.prog :=
 ⟨346,Tryz.call346,[rgV 0,rgV 4],smO r s,tB' false,[],same_ok h k hne,by kernel_rfl⟩
noncomputable def sRNorm2 {r:RQ} (h:RSz KC r) (hp:decide ((rpow r).num.sign≤0)=false):Spec Tryz.prog :=
 (sRNormal h rfl rfl (rby_ne hp)).newsTo (rgT (rone r)) rfl
theorem rone_sz2 {r:RQ} (h:FitC r) (hp:decide ((rpow r).num.sign≤0)=false):RSz KC (rone r) :=
 (rnm_sz (k:=1024) ⟨h.1.sz,h.2.1.gsz,h.2.2.sz⟩ (rby_sz ⟨h.1.sz,h.2.1.gsz,h.2.2.sz⟩ _ _) (rby_ne hp)).mono (by decide)
include hf in
theorem wheelOne (hp:decide ((rpow r).num.sign≤0)=false) (hne:rone r≠r):WheelNo (cC r):=fun β w=>by
 refine (spec_auto (obs:=[]) (news:=rgT r) (res:=.tup [rgC 0,.c (.b (.v (.bool false)))]) (evs:=[(ofG hf.2.1).e,(sRatIn hf.1).e,(sRatIn hf.2.2).e,dEq r.a,dEq r.c,(sPower (fitC_sz hf)).e,nSign (x:=rpow r) rfl,.eqv 37 (.bool (decide ((rpow r).num.sign≤0))) (.bool false) (sgn_le hp),(sRNorm2 (fitC_sz hf) hp).e,(sRSameNo (fitC_sz hf) (rone_sz2 hf hp) hne).e]) (Ns:=[(2,9),(5,5)]) (m:=1200) Tryz.func234 hmA (fun β=>by kernel_rfl) (by kernel_rfl) β w (fun k t h=>by simp at h)).mono ?_
 rintro e w' ⟨xs,h1,he,h2,h3⟩
 exact ⟨xs,h1,he,newHoldR4 h2,h3⟩
end
structure CkNo (l:List Lf):Prop where
 cl:l.all (Lf.of fun _=>false)=true
 prog:∀ (β:Env) (w:World),Calls Tryz.prog 97 (([.one (.a l)]:List SV).map (SV.den β)).toArray w fun e w'=>e=.returned (.int .i64 2)∧Below w.heap.size w w'
 ref:∀ (β:Env) (w:World),Calls Tryz.prog 253 (([.one (.a l)]:List SV).map (SV.den β)).toArray w fun e w'=>e=.returned (.int .i64 2)∧Below w.heap.size w w'
theorem of_cl {l:List Lf} (hl:l.all (Lf.of fun _=>false)=true):(([SV.one (.a l)]:List SV).all (SV.of fun k=>Nat.blt k 0)&&(SV.one (nI' 2)).of fun k=>Nat.blt k (0+0))=true:=by
 have:l.all (Lf.of fun k=>Nat.blt k 0)=true:=List.all_eq_true.2 fun x hx=>Lf.of_mono (fun _ hk=>by cases hk) x (List.all_eq_true.1 hl x hx)
 rw [Bool.and_eq_true]
 exact ⟨by rw [List.all_cons,List.all_nil,Bool.and_true]; exact this,by kernel_rfl⟩
def sRCkNo {l:List Lf} (h:CkNo l):Spec Tryz.prog :=
 ⟨253,Tryz.call253,[.one (.a l)],[],.one (nI' 2),[],fun β w _=>(h.ref β w).mono fun e w' ⟨he,hb⟩=>⟨[],(fun _ h=>by cases h),by rw [he]; rfl,trivial,hb⟩,of_cl h.cl⟩
theorem rl_cl (a b c d:R4):(rL a++(rL b++rL c)++rL d).all (Lf.of fun _=>false)=true:=rfl
theorem two_of {f:FuncId} {l:List Lf} {w:World} {β:Env} (h:Calls Tryz.prog f (([.one (.a l)]:List SV).map (SV.den β)).toArray w fun e w'=>∃ xs:List Pl,freshS β w 0 xs∧e=.returned ((SV.one (nI' 2)).den (extE β 0 xs))∧newHold w' [] xs∧Below w.heap.size w w') :
  Calls Tryz.prog f (([.one (.a l)]:List SV).map (SV.den β)).toArray w fun e w'=>e=.returned (.int .i64 2)∧Below w.heap.size w w':=h.mono fun e w' ⟨xs,_,he,_,hb⟩=>⟨by rw [he]; rfl,hb⟩
theorem ckProg (a b c d:R4) (h:WheelNo (rL a++(rL b++rL c)++rL d)) (β:Env) (w:World):Calls Tryz.prog 97 (([.one (.a (rL a++(rL b++rL c)++rL d))]:List SV).map (SV.den β)).toArray w fun e w'=>e=.returned (.int .i64 2)∧Below w.heap.size w w' :=
 two_of (spec_auto (obs:=[]) (news:=[]) (res:=.one (nI' 2)) (evs:=[(sWheelNo h (rl_cl a b c d)).e]) (Ns:=[]) (m:=400) Tryz.func97 hmA (fun β=>by kernel_rfl) (by kernel_rfl) β w (fun k t h=>by simp at h))
def sR3MayQ (a:Fn) {r:Bool} (h:a.B=r):Spec Tryz.prog :=
 ⟨17,Tryz.call17,[.one (.a (rL a.r))],[],tB' r,[],fun β w hh=>by
  rw [← h]
  cases a with
  | ok x hx =>
   have:=(Fp.may3 (.ok x hx)).ok β w hh
   exact this
  | no f hf =>
   obtain ⟨r,a,e⟩:=f
   cases a with
   | ok x hx=>cases hf
   | no b c s t hn hs ht =>
    have:=(Fp.may3 (.no b c s t hn hs ht)).ok β w hh
    show Calls _ _ (([SV.one (.a (rL r))]:List SV).map (SV.den β)).toArray w _
    rw [← e]
    exact this,by kernel_rfl⟩
theorem ckNum (a:Fn) (b:Gn) (c:Fn) (h:(a.B&&(b.B&&c.B))=false) (β:Env) (w:World):Calls Tryz.prog 253 (([.one (.a (rL a.r++(rL b.x++rL b.y)++rL c.r))]:List SV).map (SV.den β)).toArray w fun e w'=>e=.returned (.int .i64 2)∧Below w.heap.size w w':=by
 have hh:∀ (k:Nat) (t:Thing),([]:List Thing)[k]?=some t→t.D w (β k):=fun k t h=>by simp at h
 refine two_of ?_
 cases h1:a.B with
 | false=>exact spec_auto (obs:=[]) (news:=[]) (res:=.one (nI' 2)) (evs:=[(sR3MayQ a h1).e]) (Ns:=[(3,9)]) (m:=400) Tryz.func253 hmA (fun β=>by kernel_rfl) (by kernel_rfl) β w hh
 | true=>cases h2:b.B with
  | false=>exact spec_auto (obs:=[]) (news:=[]) (res:=.one (nI' 2)) (evs:=[(sR3MayQ a h1).e,(sR4MayG b h2).e]) (Ns:=[(3,9)]) (m:=400) Tryz.func253 hmA (fun β=>by kernel_rfl) (by kernel_rfl) β w hh
  | true=>cases h3:c.B with
   | false=>exact spec_auto (obs:=[]) (news:=[]) (res:=.one (nI' 2)) (evs:=[(sR3MayQ a h1).e,(sR4MayG b h2).e,(sR3MayQ c h3).e]) (Ns:=[(3,9)]) (m:=400) Tryz.func253 hmA (fun β=>by kernel_rfl) (by kernel_rfl) β w hh
   | true=>rw [h1,h2,h3] at h; cases h
section
variable {r:RQ} (hf:FitC r)
noncomputable def ckE (r:RQ) (hf:FitC r):List (Ev Tryz.prog):=[(sR3MayQ (.ok r.a hf.1) rfl).e,(sR4MayG (.ok r.b hf.2.1) rfl).e,(sR3MayQ (.ok r.c hf.2.2) rfl).e,(sCPower (fitC_sz hf)).e,(sR3Sign (x:=rpow r) rfl).e]
include hf in
theorem ckPow (hp:decide ((rpow r).num.sign≤0)=true) (β:Env) (w:World):Calls Tryz.prog 253 (([.one (.a (cC r))]:List SV).map (SV.den β)).toArray w fun e w'=>e=.returned (.int .i64 2)∧Below w.heap.size w w' :=
 two_of (spec_auto (obs:=[]) (news:=[]) (res:=.one (nI' 2)) (evs:=ckE r hf++[.eqv 23 (.bool (decide ((rpow r).num.sign≤0))) (.bool true) (sgn_le hp)]) (Ns:=[(3,9)]) (m:=400) Tryz.func253 hmA (fun β=>by kernel_rfl) (by kernel_rfl) β w (fun k t h=>by simp at h))
abbrev eqRone (r s:RQ):Bool:=(fR r.a).eq (fR s.a)&&(geq (fR r.b.re) (fR r.b.im) (fR s.b.re) (fR s.b.im)&&((fR r.c).eq (fR s.c)&&true))
theorem eqRone_iff {r s:RQ}:eqRone r s=true↔r=s:=by
 unfold eqRone geq
 simp only [Bool.and_true,Bool.and_eq_true,R4.eq_iff]
 constructor
 · rintro ⟨h1,⟨h2,h3⟩,h4⟩
   obtain ⟨a,⟨b,b'⟩,c⟩:=r
   obtain ⟨d,⟨e,e'⟩,f⟩:=s
   obtain rfl:a=d:=fR_inj h1
   obtain rfl:b=e:=fR_inj h2
   obtain rfl:b'=e':=fR_inj h3
   obtain rfl:c=f:=fR_inj h4
   rfl
 · rintro rfl
   exact ⟨rfl,⟨rfl,rfl⟩,rfl⟩
def eqEvR (r s:RQ) {t:Bool} (h:eqRone r s=t):Ev Tryz.prog:=eqEvC (fR r.a) (fR r.b.re) (fR r.b.im) (fR r.c) (fR s.a) (fR s.b.re) (fR s.b.im) (fR s.c) t h
include hf in
theorem ckOne (hp:decide ((rpow r).num.sign≤0)=false) (hne:rone r≠r) (β:Env) (w:World):Calls Tryz.prog 253 (([.one (.a (cC r))]:List SV).map (SV.den β)).toArray w fun e w'=>e=.returned (.int .i64 2)∧Below w.heap.size w w' :=
 two_of (spec_auto (obs:=[]) (news:=[]) (res:=.one (nI' 2)) (evs:=ckE r hf++[.eqv 23 (.bool (decide ((rpow r).num.sign≤0))) (.bool false) (sgn_le hp),(sCNorm1 (fitC_sz hf) hp).e,eqEvR (rone r) r (t:=false) (Bool.eq_false_iff.2 fun e=>hne (eqRone_iff.1 e))]) (Ns:=[(3,9)]) (m:=400) Tryz.func253 hmA (fun β=>by kernel_rfl) (by kernel_rfl) β w (fun k t h=>by simp at h))
end
noncomputable def sRCk {r:RQ} (h:MayC r):Spec Tryz.prog :=
 Spec.auto Tryz.call253 [.one (.a (cC r))] [] (.one (nI' 0)) [] (ckE r h.fit++[.eqv 23 (.bool (decide ((rpow r).num.sign≤0))) (.bool false) (sgn_le h.pow),(sCNorm1 (fitC_sz h.fit) h.pow).e,eqEvR (rone r) r (t:=true) (eqRone_iff.2 h.one)]) [(3,9)] 400 Tryz.func253 hmA (by kernel_rfl) (fun β=>by kernel_rfl)
theorem cC_eq (r:RQ):cC r=rL (fR r.a)++(rL (fR r.b.re)++rL (fR r.b.im))++rL (fR r.c):=by
 unfold cC
 simp only [List.append_assoc]
theorem ckNoOf {r:RQ} (h:WheelNo (cC r)) (k:∀ (β:Env) (w:World),Calls Tryz.prog 253 (([.one (.a (cC r))]:List SV).map (SV.den β)).toArray w fun e w'=>e=.returned (.int .i64 2)∧Below w.heap.size w w') :
  CkNo (rL (fR r.a)++(rL (fR r.b.re)++rL (fR r.b.im))++rL (fR r.c)):=by
 rw [cC_eq] at h
 refine ⟨rl_cl ..,ckProg _ _ _ _ h,fun β w=>?_⟩
 have:=k β w
 rw [cC_eq] at this
 exact this
theorem ckNoNum (x:Fn) (z:Gn) (y:Fn) (h:(x.B&&(z.B&&y.B))=false):CkNo (rL x.r++(rL z.x++rL z.y)++rL y.r):=⟨rl_cl ..,ckProg _ _ _ _ (wheelNum x z y h),ckNum x z y h⟩
inductive Cp where
 | ok (r:RQ) (h:MayC r)
 | no (a b b' c:R4) (h:CkNo (rL a++(rL b++rL b')++rL c))
def Cp.L:Cp→List Lf
 | .ok r _=>cC r
 | .no a b b' c _=>rL a++(rL b++rL b')++rL c
def Cp.B:Cp→Bool
 | .ok ..=>true
 | .no ..=>false
def Cp.a:Cp→R4
 | .ok r _=>fR r.a
 | .no a _ _ _ _=>a
def Cp.b:Cp→R4
 | .ok r _=>fR r.b.re
 | .no _ b _ _ _=>b
def Cp.b':Cp→R4
 | .ok r _=>fR r.b.im
 | .no _ _ b _ _=>b
def Cp.c:Cp→R4
 | .ok r _=>fR r.c
 | .no _ _ _ c _=>c
theorem cp_of (a b b' c:R4) (ha:a.s.size≤maxLen∧a.t.size≤maxLen) (hb:b.s.size≤maxLen∧b.t.size≤maxLen) (hb':b'.s.size≤maxLen∧b'.t.size≤maxLen) (hc:c.s.size≤maxLen∧c.t.size≤maxLen):∃ p:Cp,p.a=a∧p.b=b∧p.b'=b'∧p.c=c:=by
 obtain ⟨x,rfl⟩:=fn_of a ha
 obtain ⟨z,rfl,rfl⟩:=gn_of b b' hb hb'
 obtain ⟨y,rfl⟩:=fn_of c hc
 cases h:(x.B&&(z.B&&y.B)) with
 | false=>exact ⟨.no x.r z.x z.y y.r (ckNoNum x z y h),rfl,rfl,rfl,rfl⟩
 | true =>
  cases x with
  | no=>cases h
  | ok x hx=>cases z with
   | no=>cases h
   | ok z hz=>cases y with
    | no=>cases h
    | ok y hy =>
     have hf:FitC ⟨x,z,y⟩:=⟨hx,hz,hy⟩
     cases hp:decide ((rpow ⟨x,z,y⟩).num.sign≤0) with
     | true=>exact ⟨.no (fR x) (fR z.re) (fR z.im) (fR y) (ckNoOf (wheelPow hf hp) (ckPow hf hp)),rfl,rfl,rfl,rfl⟩
     | false =>
      by_cases hne:rone ⟨x,z,y⟩=⟨x,z,y⟩
      · exact ⟨.ok ⟨x,z,y⟩ ⟨hf,hp,hne⟩,rfl,rfl,rfl,rfl⟩
      · exact ⟨.no (fR x) (fR z.re) (fR z.im) (fR y) (ckNoOf (wheelOne hf hp hne) (ckOne hf hp hne)),rfl,rfl,rfl,rfl⟩
abbrev FRT:TypeId:=265
theorem form_some:(Tryz.prog.info? 265).isSome=true:=by kernel_rfl
noncomputable def appF:AppT Tryz.prog :=
 ⟨288,265,(Tryz.prog.info? 265).get form_some,.agg #[.pointer none,.pointer none,.pointer none,.pointer none],4,32,Tryz.underlying288,(Option.some_get form_some).symm,by kernel_rfl,by kernel_rfl,by kernel_rfl,rfl,by decide,by decide⟩
def frCd (f:RQ):List Cd:=[.t f.a,.t f.b.re,.t f.b.im,.t f.c]
theorem str_no_rat {w:World} {b:Nat} {c0:Value} {b1:ByteArray} {l:List Value} {t:TypeId} {x:Rat} (h:w.heap[b]?=some (.cells (c0::.string b1::l).toArray t (0,0))) (k:RatAt w b 0 x):False:=by
 obtain ⟨A,m,cap,_,h1,_⟩:=k.2.1.open_
 have h2:=cell_lay (o:=1) h rfl
 rw [Nat.zero_add,h2] at h1
 cases h1
theorem or_cdT {w:World} {g G:Pl} {x:Rat} {i:Nat} (h:PR x w g) (hv:G.v i=g.v 0) (hF:∀ c,g.F c→G.F c):cdP w G i (.t x):=by
 obtain ⟨b,h1,h2⟩:=h
 exact ⟨b,hv.trans h1.1,hF b ((h1.2 b).2 rfl),h2⟩
theorem cellPl_pr {w:World} {g:Pl} {i:Nat} {x:Rat} (h:cdP w g i (.t x)):PR x w (cellPl g i):=by
 obtain ⟨b,h1,h2,h3⟩:=h
 exact ⟨b,⟨h1,fun c=>⟨fun ⟨a,ha,hc⟩=>by rw [h1] at ha; cases ha; exact hc,fun hc=>⟨_,h1,hc⟩⟩⟩,h3⟩
theorem cellPl_Ft {w:World} {g:Pl} {i:Nat} {x:Rat} (h:cdP w g i (.t x)) {c:Nat} (hc:(cellPl g i).F c):g.F c:=by
 obtain ⟨a,ha,rfl⟩:=hc
 obtain ⟨b,h1,h2,h3⟩:=h
 rw [h1] at ha; cases ha; exact h2
def zsL (n:Nat):Nat→Nat→List Lf
 | _,0=>[]
 | i,m+1=>lit (n+i) (fun j=>.b (.z j 0))::zsL n (i+1) m
theorem den_zsL (β:Env) (n:Nat) (ps:List Pl):∀ (m i:Nat),i+m=ps.length→(zsL n i m).map (Lf.den (extE β n ps))=(ps.drop i).map fun p=>.pointer (p.v 0)
 | 0,i,h=>by rw [List.drop_eq_nil_of_le (by omega)]; rfl
 | m+1,i,h=>by
  have hi:i<ps.length:=by omega
  unfold zsL
  rw [lit_eq,List.drop_eq_getElem_cons hi,List.map_cons,List.map_cons,den_zsL β n ps m (i+1) (by omega)]
  congr 1
  show Value.pointer ((extE β n ps (n+i)).v 0)=_
  rw [extE_in (List.getElem?_eq_getElem hi)]
def isT:Cd→Bool
 | .t _=>true
 | _=>false
def rtOf:Cd→Rat
 | .t x=>x
 | _=>0
theorem isT_iff {c:Cd} (h:isT c=true):c=.t (rtOf c):=by cases c<;>first | rfl | cases h
def plsOf (g:Pl):Nat→Nat→List Pl
 | _,0=>[]
 | o,m+1=>cellPl g o::plsOf g (o+1) m
theorem plsOf_len (g:Pl):∀ (m o:Nat),(plsOf g o m).length=m
 | 0,_=>rfl
 | m+1,o=>congrArg (·+1) (plsOf_len g m (o+1))
def rtsAt (cs:List Cd):Nat→Nat→List Rat
 | _,0=>[]
 | o,m+1=>rtOf (cs.getD o (.v undef))::rtsAt cs (o+1) m
def okT (cs:List Cd):Nat→Nat→Bool
 | _,0=>true
 | o,m+1=>isT (cs.getD o (.v undef))&&okT cs (o+1) m
theorem okT_at {cs:List Cd}:∀ {m o j:Nat},okT cs o m=true→j<m→cs[o+j]?=some (.t (rtOf (cs.getD (o+j) (.v undef))))
 | m+1,o,0,h,_=>by
  unfold okT at h
  rw [Bool.and_eq_true] at h
  rw [Nat.add_zero]
  have h1:=isT_iff h.1
  have hlt:o<cs.length:=by
   rcases Nat.lt_or_ge o cs.length with hlt | hge
   · exact hlt
   · rw [List.getD_eq_getElem?_getD,List.getElem?_eq_none hge] at h
     cases h.1
  rw [List.getElem?_eq_getElem hlt]
  rw [List.getD_eq_getElem?_getD,List.getElem?_eq_getElem hlt,Option.getD_some] at h1 ⊢
  exact congrArg some h1
 | m+1,o,j+1,h,hj=>by
  unfold okT at h
  rw [Bool.and_eq_true] at h
  have:=okT_at (m:=m) (o:=o+1) (j:=j) h.2 (by omega)
  rw [show o+(j+1)=o+1+j by omega]
  exact this
theorem plsOf_hold {cs:List Cd} {w:World} {g:Pl} (hc:cdOk w g 0 cs):∀ {m o:Nat},okT cs o m=true→newHold w ((rtsAt cs o m).map ratT) (plsOf g o m)∧∀ p∈plsOf g o m,∀ c,p.F c→g.F c
 | 0,o,_=>⟨trivial,fun p hp=>by cases hp⟩
 | m+1,o,h=>by
  have h1:=okT_at (m:=m+1) (o:=o) (j:=0) h (by omega)
  rw [Nat.add_zero] at h1
  have hp:=cdOk_at hc h1
  rw [Nat.zero_add] at hp
  unfold okT at h
  rw [Bool.and_eq_true] at h
  obtain ⟨h2,h3⟩:=plsOf_hold hc (m:=m) (o:=o+1) h.2
  refine ⟨⟨cellPl_pr hp,h2⟩,fun p hq c hF=>?_⟩
  rcases List.mem_cons.1 hq with rfl | hq
  · exact cellPl_Ft hp hF
  · exact h3 p hq c hF
theorem plsOf_get (g:Pl):∀ (m o j:Nat),j<m→(plsOf g o m)[j]?=some (cellPl g (o+j))
 | m+1,o,0,_=>rfl
 | m+1,o,j+1,h=>by
  have:=plsOf_get g m (o+1) j (by omega)
  rw [show o+(j+1)=o+1+j by omega]
  exact this
noncomputable def rdCells (T:TypeId) (m:Nat) (hu:∃ d,Tryz.prog.underlying T=some d∧d.isRow=true) (hi:(Tryz.prog.info? T).map (·.size)=some m) (d t:Nat) (e:TypeId) (cs:List Cd) (o:Nat) (hx:okT cs o m=true) (k n:Nat):Ev Tryz.prog :=
 .rd d (.load T (.tmp t)) (fun β=>[.pointer (some ⟨(β k).b,o,none⟩)]) [(k,(rowT e cs).ob)] n (.one (.a (zsL n 0 m))) ((rtsAt cs o m).map ratT) (fun β w h ρ op ho hx'=>by
  have h1:RW e cs w (β k):=h (k,(rowT e cs).ob) (by simp)
  have h2:ρ (.tmp t)=.pointer (some ⟨(β k).b,o,none⟩):=by simpa [Op.operands] using hx'
  obtain ⟨h3,h4⟩:=plsOf_hold h1.2.1.1 hx
  refine ⟨plsOf (β k) o m,w,fun g hg c hc=>.inr ⟨(k,(rowT e cs).ob),by simp,rfl,h4 g hg c hc⟩,?_,h3,Below.refl _ _⟩
  have hr:w.rangeAt (β k).b o ((plsOf (β k) o m).map fun p=>.pointer (p.v 0)):=fun j v hv=>by
   rw [List.getElem?_map] at hv
   by_cases hj:j<m
   · rw [plsOf_get _ _ _ _ hj] at hv
     obtain rfl:=Option.some.inj hv
     exact rw_cell h1 (okT_at hx hj)
   · rw [List.getElem?_eq_none (by rw [plsOf_len]; omega)] at hv
     cases hv
  obtain ⟨dd,hu1,hu2⟩:=hu
  have hl:=run_loadAt_mid (P:=Tryz.prog) w (β k).b o T _ dd hr hu1 hu2 (by rw [List.length_map,plsOf_len]; exact hi)
  have hden:(SV.one (.a (zsL n 0 m))).den (extE β n (plsOf (β k) o m))=.agg ((plsOf (β k) o m).map fun p=>Value.pointer (p.v 0)).toArray:=by
   show Value.agg _=_
   rw [den_zsL β n (plsOf (β k) o m) m 0 (by rw [plsOf_len]; omega),List.drop_zero]
  rw [hden]
  unfold execOp
  rw [ho]
  simp only [h2]
  simp [hl,Result.andThen])
theorem form_u:∃ d,Tryz.prog.underlying 265=some d∧d.isRow=true:=⟨_,Tryz.underlying265,by kernel_rfl⟩
theorem form_i:(Tryz.prog.info? 265).map (·.size)=some 4:=by kernel_rfl
noncomputable def dCells (T:TypeId) (m:Nat) (hu:∃ d,Tryz.prog.underlying T=some d∧d.isRow=true) (hi:(Tryz.prog.info? T).map (·.size)=some m) (e:TypeId) (cs:List Cd):Ev Tryz.prog:=.dyn (fun o xs ob=>match o.op with
 | .load T' (.tmp _)=>Nat.beq T' T&&isAd (xs.getD 0 undefS)&&(match ob[(adOf (xs.getD 0 undefS)).1]? with | some (.th _)=>true | _=>false)
 | _=>false) fun o xs ob=>match o.op with
 | .load _ (.tmp t)=>lit (adOf (xs.getD 0 undefS)).1 fun k=>lit (adOf (xs.getD 0 undefS)).2 fun off=>lit ob.length fun n=>if h:okT cs off m=true then rdCells T m hu hi (o.dst.getD 0) t e cs off h k n else .eqv 0 undef undef rfl
 | _=>.eqv 0 undef undef rfl
noncomputable def dForm (cs:List Cd):Ev Tryz.prog:=dCells 265 4 form_u form_i FRT cs
noncomputable def rdIdxF (d t:Nat) (e:TypeId) (cs:List Cd) (ix:Operand) (n j:Nat) (hj:Nat.blt j n=true) (k:Nat):Ev Tryz.prog :=
 .rd d (.indexAddr 288 (.tmp t) ix) (fun β=>[.slice ((β k).v cs.length) n ((β k).c cs.length),.int .i64 (j:Int)]) [(k,(rowT e cs).ob)] 0 (.one (.c (.b (.p k (j*4))))) [] (fun β w h ρ op ho hx'=>by
  have h1:RW e cs w (β k):=h (k,(rowT e cs).ob) (by simp)
  have h2:ρ (.tmp t)=.slice (some ⟨(β k).b,0,none⟩) n ((β k).c cs.length)∧ρ ix=.int .i64 (j:Int):=by
   rw [h1.2.1.2] at hx'
   simpa [Op.operands] using hx'
  rw [Nat.blt_eq] at hj
  refine ⟨[],w,(fun _ h=>by cases h),?_,trivial,Below.refl _ _⟩
  rw [extE_nil]
  unfold execOp
  rw [ho]
  simp only [h2.1,h2.2]
  have hi:=run_indexAt_slice (P:=Tryz.prog) w 288 ⟨(β k).b,0,none⟩ n ((β k).c cs.length) .i64 (j:Int) (by kernel_rfl)
  have hsz:(sizeOf (Tryz.prog.elem 288)).run Tryz.prog w=.ok 4 w:=by kernel_rfl
  rw [if_pos ⟨by omega,by omega⟩,hsz,Result.andThen_ok,Int.toNat_natCast] at hi
  have ha:(⟨(β k).b,0,none⟩:Addr).add (j*4)=⟨(β k).b,j*4,none⟩:=by
   simp [Addr.add]
   exact fun h=>h.symm
  rw [ha] at hi
  simp only [Sem.run_bind,hi,Result.andThen_ok]
  rfl)
noncomputable def dIdxF (cs:List Cd):Ev Tryz.prog:=.dyn (fun o xs ob=>match o.op with
 | .indexAddr _ (.tmp _) _=>isY (xs.getD 0 undefS)
 | _=>false) fun o xs ob=>match o.op with
 | .indexAddr _ (.tmp t) ix=>lit (yOf (xs.getD 0 undefS)).1 fun k=>lit (yOf (xs.getD 0 undefS)).2 fun n=>lit (intS (xs.getD 1 undefS)) fun j=>if h:Nat.blt j n=true then rdIdxF (o.dst.getD 0) t FRT cs ix n j h k else .eqv 0 undef undef rfl
 | _=>.eqv 0 undef undef rfl
abbrev fr2 (f0 f1:RQ):List Cd:=frCd f0++frCd f1
abbrev oc2A:List SV:=[.one (.c (.b (.s 0 0 2 2)))]
def oc2L (f0 f1:RQ):List Lf:=cC f0++cC f1
def oc2O (f0 f1:RQ):List (Nat × Ob):=[(14,.row [.b (.z 2 0),.b (.z 3 0),.b (.z 4 0),.b (.z 5 0),.b (.z 9 0),.b (.z 10 0),.b (.z 11 0),.b (.z 12 0)] FRT 2 4),(2,(ratT f0.a).ob),(3,(ratT f0.b.re).ob),(4,(ratT f0.b.im).ob),(5,(ratT f0.c).ob),(9,(ratT f1.a).ob),(10,(ratT f1.b.re).ob),(11,(ratT f1.b.im).ob),(12,(ratT f1.c).ob)]
noncomputable def oc2E {f0 f1:RQ} (hf0:MayC f0) (hf1:MayC f1):List (Ev Tryz.prog):=[(sCCheck hf0).e,(sMtOf hf0.fit).e,.app appF,(sCCheck hf1).e,(sMtOf hf1.fit).e,.app appF]
theorem oc2_eqs {f0 f1:RQ} (hf0:MayC f0) (hf1:MayC f1) (β:Env):(allS Tryz.prog Tryz.f272 oc2A [.box (oc2L f0 f1) 112] (oc2E hf0 hf1) [] 1200 (.tup [.c (.b (.r 14 2)),nI' 0]) (oc2O f0 f1) β).map Prod.fst=(allS Tryz.prog Tryz.f272 oc2A [.box (oc2L f0 f1) 112] (oc2E hf0 hf1) [] 1200 (.tup [.c (.b (.r 14 2)),nI' 0]) (oc2O f0 f1) β).map Prod.snd:=by kernel_rfl
theorem open2_ok {f0 f1:RQ} (hf0:MayC f0) (hf1:MayC f1) (β:Env) (w:World) (hh:(Ob.box (oc2L f0 f1) 112).holds β w (β 0)) :
  Calls Tryz.prog 272 (oc2A.map (SV.den β)).toArray w fun e u=>∃ xs:List Pl,(∀ x∈xs,∀ c,x.F c→w.heap.size≤c)∧e=.returned ((SV.tup [.c (.b (.y 1 8 2)),nI' 0]).den (extE β 1 xs))∧newHold u [rowT FRT (fr2 f0 f1)] xs∧Below w.heap.size w u:=by
 refine (sx (P:=Tryz.prog) oc2A [.box (oc2L f0 f1) 112] (oc2E hf0 hf1) [] 1200 (.tup [.c (.b (.r 14 2)),nI' 0]) (oc2O f0 f1) Tryz.func272 hmA (fun β=>ok_of_maps (oc2_eqs hf0 hf1 β)) (by kernel_rfl) (by kernel_rfl) β w (fun k o ho=>?_)).mono ?_
 · cases k with
   | zero=>simp only [List.getElem?_cons_zero] at ho; obtain rfl:=Option.some.inj ho; exact hh
   | succ k=>simp at ho
 · rintro e u ⟨β',q',obj,e1,rfl,e2,e4,e5,g⟩
   have hnew:∀ y∈oc2O f0 f1,∀ c,(β' y.1).F c→c≠(β 0).b→w.heap.size≤c:=fun y hy c hc hne=>by
    rcases e4 y hy c hc with h | ⟨i,hi,h⟩
    · exact h
    · obtain rfl:i=0:=by simp only [List.length_singleton] at hi; omega
      exact absurd ((hh.1.1 c).1 h) hne
   have hu:u.heap[(β 0).b]?=some (.cells ((oc2L f0 f1).map (Lf.den β)).toArray 112 (0,0)):=by rw [g.bel.block _ (heap_lt hh.2)]; exact hh.2
   have hrat:∀ (k:Nat) (x:Rat),(k,(ratT x).ob)∈oc2O f0 f1→PR x u (β' k)∧∀ c,(β' k).F c→w.heap.size≤c:=fun k x hk=>by
    have h:PR x u (β' k):=e5 _ hk
    refine ⟨h,fun c hc=>?_⟩
    obtain ⟨b,hb,hx⟩:=h
    have ec:=(hb.2 c).1 hc
    subst ec
    refine hnew _ hk c hc fun e=>?_
    rw [e] at hx
    exact str_no_rat hu hx
   obtain ⟨o2,n2⟩:=hrat 2 f0.a (by simp [oc2O])
   obtain ⟨o3,n3⟩:=hrat 3 f0.b.re (by simp [oc2O])
   obtain ⟨o4,n4⟩:=hrat 4 f0.b.im (by simp [oc2O])
   obtain ⟨o5,n5⟩:=hrat 5 f0.c (by simp [oc2O])
   obtain ⟨o9,n9⟩:=hrat 9 f1.a (by simp [oc2O])
   obtain ⟨o10,n10⟩:=hrat 10 f1.b.re (by simp [oc2O])
   obtain ⟨o11,n11⟩:=hrat 11 f1.b.im (by simp [oc2O])
   obtain ⟨o12,n12⟩:=hrat 12 f1.c (by simp [oc2O])
   obtain ⟨hone,cur,hcur,hcl,hn,hcm,hsz,htake⟩:=e5 (14,.row [.b (.z 2 0),.b (.z 3 0),.b (.z 4 0),.b (.z 5 0),.b (.z 9 0),.b (.z 10 0),.b (.z 11 0),.b (.z 12 0)] FRT 2 4) (by simp [oc2O])
   have hbR:w.heap.size≤(β' 14).b:=hnew _ (by simp [oc2O]) _ ((hone.1 _).2 rfl) fun e=>by
    rw [e,hu] at hcur
    have:=(Obj.cells.inj (Option.some.inj hcur)).2.1
    exact absurd this (by decide)
   refine ⟨[⟨(β' 14).b,fun i=>match i with | 0=>(β' 2).v 0 | 1=>(β' 3).v 0 | 2=>(β' 4).v 0 | 3=>(β' 5).v 0 | 4=>(β' 9).v 0 | 5=>(β' 10).v 0 | 6=>(β' 11).v 0 | 7=>(β' 12).v 0 | 8=>some ⟨(β' 14).b,0,none⟩ | _=>none,fun _=>(β' 14).c 0,fun c=>c=(β' 14).b∨(β' 2).F c∨(β' 3).F c∨(β' 4).F c∨(β' 5).F c∨(β' 9).F c∨(β' 10).F c∨(β' 11).F c∨(β' 12).F c,fun _=>undef⟩],fun x hx c hc=>?_,rfl,⟨⟨⟨.inl rfl,cur,hcur,?_⟩,⟨⟨or_cdT o2 rfl fun c hc=>.inr (.inl hc),or_cdT o3 rfl fun c hc=>.inr (.inr (.inl hc)),or_cdT o4 rfl fun c hc=>.inr (.inr (.inr (.inl hc))),or_cdT o5 rfl fun c hc=>.inr (.inr (.inr (.inr (.inl hc)))),or_cdT o9 rfl fun c hc=>.inr (.inr (.inr (.inr (.inr (.inl hc))))),or_cdT o10 rfl fun c hc=>.inr (.inr (.inr (.inr (.inr (.inr (.inl hc)))))),or_cdT o11 rfl fun c hc=>.inr (.inr (.inr (.inr (.inr (.inr (.inr (.inl hc))))))),or_cdT o12 rfl fun c hc=>.inr (.inr (.inr (.inr (.inr (.inr (.inr (.inr hc))))))),trivial⟩,rfl⟩,fun c hc=>?_⟩,trivial⟩,g.bel⟩
   · obtain rfl:=List.mem_singleton.1 hx
     rcases hc with rfl | hc | hc | hc | hc | hc | hc | hc | hc
     · exact hbR
     · exact n2 c hc
     · exact n3 c hc
     · exact n4 c hc
     · exact n5 c hc
     · exact n9 c hc
     · exact n10 c hc
     · exact n11 c hc
     · exact n12 c hc
   · have:(fr2 f0 f1).length=2*4:=rfl
     rw [this,htake]
     rfl
   · rcases hc with rfl | hc | hc | hc | hc | hc | hc | hc | hc
     · exact heap_lt hcur
     · exact (pr_stable _).lt u _ o2 c hc
     · exact (pr_stable _).lt u _ o3 c hc
     · exact (pr_stable _).lt u _ o4 c hc
     · exact (pr_stable _).lt u _ o5 c hc
     · exact (pr_stable _).lt u _ o9 c hc
     · exact (pr_stable _).lt u _ o10 c hc
     · exact (pr_stable _).lt u _ o11 c hc
     · exact (pr_stable _).lt u _ o12 c hc
noncomputable def sOpen2 {f0 f1:RQ} (hf0:MayC f0) (hf1:MayC f1):CSpec Tryz.prog :=
 ⟨272,Tryz.call272,oc2A,oc2L f0 f1,112,.tup [.c (.b (.y 1 8 2)),nI' 0],[rowT FRT (fr2 f0 f1)],open2_ok hf0 hf1,by kernel_rfl⟩
abbrev oc3A:List SV:=[.one (.c (.b (.s 0 0 3 3)))]
def oc3L (f0 f1 f2:RQ):List Lf:=cC f0++cC f1++cC f2
def oc3O (f0 f1 f2:RQ):List (Nat × Ob):=[(21,.row [.b (.z 2 0),.b (.z 3 0),.b (.z 4 0),.b (.z 5 0),.b (.z 9 0),.b (.z 10 0),.b (.z 11 0),.b (.z 12 0),.b (.z 16 0),.b (.z 17 0),.b (.z 18 0),.b (.z 19 0)] FRT 3 4),(2,(ratT f0.a).ob),(3,(ratT f0.b.re).ob),(4,(ratT f0.b.im).ob),(5,(ratT f0.c).ob),(9,(ratT f1.a).ob),(10,(ratT f1.b.re).ob),(11,(ratT f1.b.im).ob),(12,(ratT f1.c).ob),(16,(ratT f2.a).ob),(17,(ratT f2.b.re).ob),(18,(ratT f2.b.im).ob),(19,(ratT f2.c).ob)]
noncomputable def oc3E {f0 f1 f2:RQ} (hf0:MayC f0) (hf1:MayC f1) (hf2:MayC f2):List (Ev Tryz.prog):=[(sCCheck hf0).e,(sMtOf hf0.fit).e,.app appF,(sCCheck hf1).e,(sMtOf hf1.fit).e,.app appF,(sCCheck hf2).e,(sMtOf hf2.fit).e,.app appF]
theorem oc3_eqs {f0 f1 f2:RQ} (hf0:MayC f0) (hf1:MayC f1) (hf2:MayC f2) (β:Env):(allS Tryz.prog Tryz.f272 oc3A [.box (oc3L f0 f1 f2) 112] (oc3E hf0 hf1 hf2) [] 1200 (.tup [.c (.b (.r 21 3)),nI' 0]) (oc3O f0 f1 f2) β).map Prod.fst=(allS Tryz.prog Tryz.f272 oc3A [.box (oc3L f0 f1 f2) 112] (oc3E hf0 hf1 hf2) [] 1200 (.tup [.c (.b (.r 21 3)),nI' 0]) (oc3O f0 f1 f2) β).map Prod.snd:=by kernel_rfl
abbrev frS (f:RQ):SV:=.one (.a (cC f))
abbrev one1:Rat:=Rat.divInt 1 1
theorem fsq_sz {f g:RQ} {k:Nat} (hf:RSz k f) (hg:RSz k g) (h0:fpr f f*fpr g g≠0):Sz (psz k k+psz k k+(psz k k+psz k k)) (fsq f g):=div_sz ((fpr_sz hf hg).mul (fpr_sz hf hg)) ((fpr_sz hf hf).mul (fpr_sz hg hg)) h0
abbrev KH:Nat:=1100
def lieK (s:Bool) (c:Int):Int:=bif s then 0 else if c = -1 then 2 else if c=0 then 1 else 3
theorem cmpQ_cases (x y:Rat):cmpQ x y = -1∨cmpQ x y=0∨cmpQ x y=1:=by
 unfold cmpQ
 split
 · exact .inl rfl
 · split
   · exact .inr (.inr rfl)
   · exact .inr (.inl rfl)
theorem one_szH:Sz 8 one1:=one_sz
inductive AxK where
 | both
 | one
 | two
 | none
def axAt (f g:RQ):AxK→Prop
 | .both=>decide (f.a=0)=true∧decide (g.a=0)=true
 | .one=>decide (f.a=0)=true∧decide (g.a=0)=false
 | .two=>decide (f.a=0)=false∧decide (g.a=0)=true
 | .none=>decide (f.a=0)=false∧decide (g.a=0)=false
theorem axAt_all (f g:RQ):∃ k,axAt f g k:=by
 cases h1:decide (f.a=0)<;>cases h2:decide (g.a=0)
 · exact ⟨.none,h1,h2⟩
 · exact ⟨.two,h1,h2⟩
 · exact ⟨.one,h1,h2⟩
 · exact ⟨.both,h1,h2⟩
def ovb (f g:RQ):Rat:=Rat.divInt (-2) 1*fpr f g/fpr f f
def ovQ (f g:RQ):RQ:=pls g f one1 (ovb f g)
theorem ov_pow {f g:RQ} (h0:fpr f f≠0):rpow (ovQ f g)=rpow g:=by
 have h1:one1=1:=of_decide_eq_true (by kernel_rfl:decide (one1=1)=true)
 have h2:(Rat.divInt (-2) 1:Rat) = -2:=of_decide_eq_true (by kernel_rfl:decide ((Rat.divInt (-2) 1:Rat) = -2)=true)
 have h3:(Rat.divInt 2 1:Rat)=2:=of_decide_eq_true (by kernel_rfl:decide ((Rat.divInt 2 1:Rat)=2)=true)
 obtain ⟨b,hb⟩:∃ b,b=ovb f g:=⟨_,rfl⟩
 have hb2:b*fpr f f = -2*fpr f g:=by
  rw [hb,ovb,h2,Rat.div_def,Rat.mul_assoc,Rat.inv_mul_cancel _ h0,Rat.mul_one]
 unfold ovQ
 rw [← hb,h1]
 unfold fpr at hb2
 rw [h3] at hb2
 unfold rpow gnorm pls
 dsimp only
 grind
end Go.Proofs.YtpccljaooghafaaGreat.Y
end
