/- RefG, Arh, Frm, RefH, RefI, RefJ. -/
import Derived.Test.YtbepimnlleilfaaGreatNk8
set_option linter.unnecessarySimpa false
set_option linter.unusedVariables false
set_option linter.unusedSimpArgs false
section
namespace Go.Proofs.YtbepimnlleilfaaGreat
open Go.RowKit
theorem Div.first2 (us0:List Nat) (A V k la n:Nat) (hA:A<4294967296^la) (hu:val us0=A*2^k) (hl:us0.length=la+2) (hn:0<n) (hnl:n≤la) (hk:k≤31) (hV:4294967296^(n-1)*2147483648≤V) :
  Div us0 us0 (List.replicate (la+2-n) 0) V (la+2-n) (la+2) n:=by
 refine ⟨hl,by simp,rfl,?_,by rw [List.drop_of_length_le (by simp)]; simp [val]⟩
 have h1:=qX5 us0 (la+2-n) (by omega)
 have h2:4294967296^(la+2-n)*val (us0.drop (la+2-n))<4294967296^(la+1):=by
  have h3:A*2^k<4294967296^la*2^32:=by
   have h4:2^k≤2^32:=Nat.pow_le_pow_right (by decide) (by omega)
   exact Nat.mul_lt_mul_of_lt_of_le hA h4 (Nat.two_pow_pos _)
  rw [show (2:Nat)^32=4294967296 from rfl,← Nat.pow_succ] at h3
  omega
 have h5:4294967296^(la+1)=4294967296^(la+2-n)*4294967296^(n-1):=by rw [← Nat.pow_add]; congr 1; omega
 rw [h5] at h2
 have h6:=Nat.lt_of_mul_lt_mul_left h2
 have h7:4294967296^(n-1)*1≤4294967296^(n-1)*2147483648:=Nat.mul_le_mul_left _ (by decide)
 omega
theorem Div.last2 {us0 us qs:List Nat} {b k L n a:Nat} (d:Div us0 us qs (b*2^k) 0 L n) (hu:val us0=a*2^k):val qs=a/b∧val us/2^k=a % b:=by
 have h1:=d.eq
 have h2:=d.rest
 simp only [List.drop_zero] at h1 h2
 rw [hu,← Nat.mul_assoc] at h1
 have hb:0<b:=by
  rcases Nat.eq_zero_or_pos b with h | h
  · subst h; simp at h2
  · exact h
 have hP:=Nat.two_pow_pos k
 obtain ⟨r,hr⟩:∃ r,val us=r*2^k:=by
  refine ⟨a-val qs*b,?_⟩
  rw [Nat.sub_mul]
  omega
 rw [hr] at h1 h2 ⊢
 have h3:r<b:=Nat.lt_of_mul_lt_mul_right h2
 have h4:val qs*b+r=a:=by
  rw [← Nat.add_mul] at h1
  exact Nat.eq_of_mul_eq_mul_right hP h1
 rw [Nat.mul_div_cancel _ hP]
 have h5:a=b*val qs+r:=by rw [Nat.mul_comm]; exact h4.symm
 rw [h5,Nat.mul_add_div hb,Nat.div_eq_of_lt h3,Nat.mul_add_mod,Nat.mod_eq_of_lt h3]
 exact ⟨by omega,rfl⟩
theorem guess_first {U V top v1 P:Nat} (h1:U<(top+1)*P) (h2:v1*P≤V) (h3:0<v1) (hV:0<V) (hU:U<4294967296*V):U<(min (top/v1) 4294967295+1)*V:=by
 have h4:=knu_le U V top v1 P h1 h2 h3 hV
 rcases Nat.le_total (top/v1) 4294967295 with h | h
 · rw [Nat.min_eq_left h]; exact h4
 · rw [Nat.min_eq_right h]; exact hU
theorem take_end {ms:List Nat} {m q V U c:Nat} (hw:Wf ms) (hl:ms.length=m) (hv:val ms+q*V=U+4294967296^m*c) (hle:q*V≤U) (hlt:U<(q+1)*V):val ms+q*V=U∧val ms<V:=by
 have h1:=qY6 ms hw
 rw [hl] at h1
 rcases Nat.eq_zero_or_pos c with h | h
 · subst h
   rw [Nat.add_mul] at hlt
   omega
 · exfalso
   have:4294967296^m*1≤4294967296^m*c:=Nat.mul_le_mul_left _ h
   omega
set_option maxRecDepth 100000 in
theorem divided_small {A B:Option Addr} {la ca lb cb a b:Nat} {w:World} (hx:Words w (.slice A la ca) (dig a)) (hy:Words w (.slice B lb cb) (dig b)) (hlt:a<b) :
  Calls Tryz.prog 340 #[.slice A la ca,.slice B lb cb] w (DivPost w a b):=by
 have HX:=Lib.hid hx
 have HY:=Lib.hid hy
 have HL:=Lib.hid hlt
 clear hx hy hlt
 go_enter Tryz.func340,Tryz.ntmps340
 go_wp2_with (go_at_call 278; refine (zJ1 HX.out HY.out).mono ?_; rw [cmpN_lt HL.out]; rintro e w' ⟨rfl,k,rfl⟩)
 go_ret2
 refine ⟨.slice none 0 0,.slice A la ca,rfl,?_,?_,Below.drewN_ (Below.refl _ _) k⟩
 · rw [Nat.div_eq_of_lt HL.out,qJ4]; exact Words.nil _
 · rw [Nat.mod_eq_of_lt HL.out]; exact HX.out.below (Below.drewN_ (Below.refl _ _) k)
theorem norm_bits {b n t k Lb:Nat} (h:Bits b Lb) (hn:(dig b).length=n) (h0:0<n) (ht:(dig b).getD (n-1) 0=t) (hk:k=32*n-Lb):k≤31∧2147483648≤t*2^k∧t*2^k<4294967296:=by
 obtain ⟨m,rfl⟩:∃ m,n=m+1:=⟨n-1,by omega⟩
 rw [Nat.add_sub_cancel,zK1] at ht
 have hm:=qV3 b
 rw [hn,Nat.pow_succ] at hm
 have h3:b/4294967296^m<4294967296:=Nat.div_lt_of_lt_mul hm
 rw [Nat.mod_eq_of_lt h3] at ht
 have hbp:0<b:=by
  rcases Nat.eq_zero_or_pos b with e | e
  · rw [e,qJ4] at hn; simp at hn
  · exact e
 have hlow:=dig_len_ge b hbp
 rw [hn,Nat.add_sub_cancel] at hlow
 have hP:0<4294967296^m:=Nat.pow_pos (by decide)
 have hL1:Lb≤32*(m+1):=h.le (by rw [← p32,Nat.pow_succ]; exact hm)
 have hL2:32*m<Lb:=by
  have h4:=h.1
  rw [p32] at hlow
  exact (Nat.pow_lt_pow_iff_right (by decide:1<2)).1 (Nat.lt_of_le_of_lt hlow h4)
 obtain ⟨e,he⟩:∃ e,Lb=32*m+e:=⟨Lb-32*m,by omega⟩
 have hk2:k+e=32:=by omega
 have h5:t<2^e:=by
  have h4:=h.1
  rw [he,Nat.pow_add,← p32] at h4
  rw [← ht]
  exact Nat.div_lt_of_lt_mul h4
 have h6:2^(e-1)≤t:=by
  have h4:=h.2 (by omega)
  rw [he,show 32*m+e-1=32*m+(e-1) by omega,Nat.pow_add,← p32] at h4
  rw [← ht]
  rw [Nat.mul_comm] at h4
  exact (Nat.le_div_iff_mul_le hP).2 h4
 have hK:=Nat.two_pow_pos k
 have e1:2^e*2^k=4294967296:=by rw [← Nat.pow_add,show e+k=32 by omega]
 have e2:2^(e-1)*2^k=2147483648:=by rw [← Nat.pow_add,show e-1+k=31 by omega]
 refine ⟨by omega,?_,?_⟩
 · rw [← e2]; exact Nat.mul_le_mul_right _ h6
 · rw [← e1]; exact Nat.mul_lt_mul_of_pos_right h5 hK
theorem small_dig {A:Option Addr} {la ca a:Nat} {w:World} (hx:Words w (.slice A la ca) (dig a)) (d:Nat) (hd0:0<d) (hd:d<4294967296) :
  Calls Tryz.prog 378 #[.slice A la ca,.int .u64 (d:Int)] w fun e w'=>∃ v r,e=.returned (.tuple #[v,.int .u64 ((r:Nat):Int)])∧Hid (r=a % d)∧r<d∧Words w' v (dig (a/d))∧Below w.heap.size w w':=by
 refine (small_any hx (by rw [hx.len.1]; exact hx.2.1) d hd0 hd).mono fun e w' ⟨v,h1,h2,h3⟩=>?_
 rw [qQ3] at h1 h2
 exact ⟨v,_,h1,rfl,Nat.mod_lt _ hd0,h2,h3⟩
set_option maxRecDepth 100000 in
theorem divided_word {A B:Option Addr} {la ca cb a b:Nat} {w:World} (hx:Words w (.slice A la ca) (dig a)) (hy:Words w (.slice B 1 cb) (dig b)) (hge:b≤a) :
  Calls Tryz.prog 340 #[.slice A la ca,.slice B 1 cb] w (DivPost w a b):=by
 have hl:=hy.len.1
 have hb0:0<b:=by
  rcases Nat.eq_zero_or_pos b with h | h
  · rw [h,qJ4] at hl; simp at hl
  · exact h
 have hbd:(dig b).getD 0 0=b:=by
  have h1:=qQ3 b
  match hd:dig b,hl with
  | [x],_=>rw [hd] at h1; simp [val] at h1; simpa using h1
 have hblt:b<4294967296:=by have:=qV3 b; rw [← hl] at this; omega
 obtain ⟨bb,o,rfl,hc⟩:=hy.open_ (by omega)
 have hc:w.cell? ⟨bb,o,none⟩=some (.int .u32 (b:Int)):=by have:=hc 0 (by omega); rw [hbd] at this; exact this
 have hsz:=hx.2.1
 rw [← hx.len.1] at hsz
 have HX:=Lib.hid hx
 have HY:=Lib.hid hy
 have HC:=Lib.hid (cmpN_ge hge)
 obtain ⟨r,hr⟩:∃ r,r=cmpN a b:=⟨_,rfl⟩
 have HR:=Lib.hid hr
 have hr0:0≤r:=by rw [hr]; exact HC.out
 have hb1:0<b:=hb0
 clear hx hy hge hl hbd hr HC
 go_enter Tryz.func340,Tryz.ntmps340
 go_wp2_with (first
  | (go_at_call 278; refine (zJ1 HX.out HY.out).mono ?_; rw [← HR.out]; rintro e w' ⟨rfl,k,rfl⟩)
  | (go_at_call 378; refine (small_dig (HX.out.below (Below.drewN_ (Below.refl _ _) _)) b hb1 hblt).mono ?_; rintro e w' ⟨v,r2,rfl,hr2,hr2b,hv,hbel⟩))
 have hrl:r2<4294967296:=by omega
 have HV:=Lib.hid hv
 have HB:=Lib.hid hbel
 clear hv hbel
 go_wp2_with (go_at_call 339; refine (qY0 (jQ1 _ r2 _ hrl rfl)).mono ?_; rintro e w2 ⟨rfl,rfl⟩)
 go_ret2
 refine ⟨v,.slice (some ⟨w'.heap.size,0,none⟩) (trim [r2]).length 1,rfl,HV.out.below ((Below.refl _ _).alloc (Nat.le_refl _) _),?_,(((Below.drewN_ (Below.refl _ _) _).trans (HB.out.mono (by simp))).alloc (by have:=HB.out.size; simpa using this) _)⟩
 have h1:=(jQ1 w' r2 _ hrl rfl).trim_
 rw [← hr2.out,← zZ2 [r2] r2 (Wf.cons hrl Wf.nil) (by simp [val])]
 exact h1
set_option maxHeartbeats 6400000 in
set_option maxRecDepth 100000 in
theorem divided_long {A B:Option Addr} {la ca lb cb a b:Nat} {w:World} (hx:Words w (.slice A la ca) (dig a)) (hy:Words w (.slice B lb cb) (dig b)) (hge:b≤a) (hl2:2≤lb) (hla:la≤4294967296) :
  Calls Tryz.prog 340 #[.slice A la ca,.slice B lb cb] w (DivPost w a b):=by
 have hla0:=hx.len.1
 have hlb:=hy.len.1
 have hlab:lb≤la:=by rw [hla0,hlb]; exact qJ0 _ _ hge
 obtain ⟨t,ht⟩:∃ t,t=(dig b).getD (lb-1) 0:=⟨_,rfl⟩
 have ht32:t<4294967296:=by rw [ht]; exact (zZ4 b).getD _
 have HX:=Lib.hid hx
 have HY:=Lib.hid hy
 have HLB:=Lib.hid hlb
 have HLA:=Lib.hid hla0
 have HT:=Lib.hid ht
 obtain ⟨r,hr⟩:∃ r,r=cmpN a b:=⟨_,rfl⟩
 have hr0:0≤r:=by rw [hr]; exact cmpN_ge hge
 have HR:=Lib.hid hr
 have HGE:=Lib.hid hge
 have hlb1:((lb:Int)==1)=false:=by rw [beq_eq_false_iff_ne]; omega
 clear hx hy hge hlb hla0 ht hr
 go_enter Tryz.func340,Tryz.ntmps340
 go_wp2_with (go_at_call 278; refine (zJ1 HX.out HY.out).mono ?_; rw [← HR.out]; rintro e w' ⟨rfl,kk,rfl⟩)
 have HXd:=Lib.hid (HX.out.below (Below.drewN_ (Below.refl _ _) kk))
 have HYd:=Lib.hid (HY.out.below (Below.drewN_ (Below.refl _ _) kk))
 go_wp2_with fail
 refine (rbits_any HYd.out).mono ?_
 rintro e w0 ⟨Lb,rfl,hbits,hLb,hb0⟩
 obtain ⟨k,hk'⟩:∃ k,k=32*lb-Lb:=⟨_,rfl⟩
 have hki:32*(lb:Int)-(Lb:Int)=(k:Int):=by omega
 have hN:k≤31∧2147483648≤t*2^k∧t*2^k<4294967296:=norm_bits hbits HLB.out.symm (by omega) HT.out.symm hk'
 have hk:k≤31:=hN.1
 have HN:=Lib.hid (norm_top b lb t k HLB.out.symm (by omega) HT.out.symm hN.2.1 hN.2.2 hk)
 have HB0:=Lib.hid hb0
 clear hbits hk' hN hb0
 have HX0:=Lib.hid (HXd.out.below HB0.out)
 have HY0:=Lib.hid (HYd.out.below HB0.out)
 go_wp2_with fail
 refine (up_any HY0.out (by omega) k (by omega)).mono ?_
 rintro e w1 ⟨vv,rfl,hvv,hb1⟩
 rw [qQ3] at hvv
 obtain ⟨Av,nv,cv,rfl⟩:=hvv.form
 have hnv:nv=lb:=by rw [hvv.len.1]; exact HN.out.1
 subst hnv
 have HVV:=Lib.hid hvv
 have HB1:=Lib.hid hb1
 clear hvv hb1
 go_wp2_with (at_make; refine qQ4 rfl _ _ rfl _ _ _ _ (la+2) (la+2) rfl rfl (by omega) (by omega) (Nat.le_refl _) (by omega) ?_)
 intro w2 hbuf hb2 hz2
 have HBU:=Lib.hid hbuf
 have HB2:=Lib.hid hb2
 clear hz2 hbuf hb2
 go_wp2_with fail
 refine (up_any ((HX0.out.below HB1.out).below HB2.out) (by omega) k (by omega)).mono ?_
 rintro e w3 ⟨va,rfl,hva,hb3⟩
 rw [qQ3] at hva
 obtain ⟨Aa,na,ca',rfl⟩:=hva.form
 have hna:na≤la+2:=by
  rw [hva.len.1]
  refine Nat.le_trans (qX8 _ (la+1) ?_) (by omega)
  have h1:=qV3 a
  rw [← HLA.out] at h1
  have h2:2^k≤2^32:=Nat.pow_le_pow_right (by omega) (by omega)
  rw [Nat.pow_succ]
  exact Nat.mul_lt_mul_of_lt_of_le h1 h2 (by omega)
 obtain ⟨gu,hgu⟩:∃ gu,gu=w1.heap.size:=⟨_,rfl⟩
 rw [← hgu] at HBU
 rw [← hgu]
 have HBU3:=Lib.hid (HBU.out.on hb3)
 have HVA:=Lib.hid hva
 have HB3:=Lib.hid hb3
 have HGU:=Lib.hid hgu
 clear hva hb3 hgu
 go_wp2_with (with_reducible refine zK8 rfl (.tmp 55) (.tmp 58) rfl gu (la+2) (la+2) _ rfl HBU3.out (by simp) Aa na ca' _ rfl HVA.out hna gu w3 (Below.refl _ _) (Nat.le_refl _) ?_)
 intro w4 hbu4 hb4
 obtain ⟨us0,hus⟩:∃ us0,us0=dig (a*2^k)++List.replicate (la+2-na) 0:=⟨_,rfl⟩
 rw [← hus] at hbu4
 have hus0:val us0=a*2^k:=by rw [hus,zJ0,zJ5,qQ3,Nat.mul_zero,Nat.add_zero]
 have hul0:us0.length=la+2:=by rw [hus,List.length_append,List.length_replicate,← HVA.out.len.1]; omega
 have HUS:=Lib.hid hus0
 have HUL:=Lib.hid hul0
 have HBU4:=Lib.hid hbu4
 have HB4:=Lib.hid hb4
 clear hus hbu4 hb4 hus0 hul0
 go_wp2_with (at_make; refine qQ4 rfl _ _ rfl _ _ _ _ (la+2-nv) (la+2-nv) rfl rfl (by omega) (by omega) (Nat.le_refl _) (by omega) ?_)
 intro w5 hbq hb5 hz5
 obtain ⟨gq,hgq⟩:∃ gq,gq=w4.heap.size:=⟨_,rfl⟩
 rw [← hgq] at hbq
 rw [← hgq]
 have HGQ:=Lib.hid hgq
 have HBQ:=Lib.hid hbq
 have HB5:=Lib.hid hb5
 clear hgq hz5 hbq hb5
 have hb45:Below w.heap.size w w5:=by
  have s0:=HB0.out.size
  have s1:=HB1.out.size
  have s2:=HB2.out.size
  have s3:=HB3.out.size
  have s4:=HB4.out.size
  have e0:(w.drewN kk).heap.size=w.heap.size:=rfl
  rw [e0] at s0
  refine (((((Below.drewN_ (Below.refl _ _) kk).trans HB0.out).trans (HB1.out.mono (by omega))).trans (HB2.out.mono (by omega))).trans (HB3.out.mono (by omega))).trans ((HB4.out.mono ?_).trans (HB5.out.mono (by omega)))
  rw [HGU.out]; omega
 have hguq:gu<gq:=by rw [HGQ.out]; exact HBU4.out.lt
 have hBgu:w.heap.size≤gu:=by
  rw [HGU.out]
  have s0:=HB0.out.size
  have s1:=HB1.out.size
  have e0:(w.drewN kk).heap.size=w.heap.size:=rfl
  rw [e0] at s0
  omega
 have HNE:Hid (∀ b o,Av=some ⟨b,o,none⟩→b<gu):=by
  intro b o hA; rw [HGU.out]; exact HVV.out.lt (by omega) b o hA
 have HVV5:Hid (Words w5 (.slice Av nv cv) (dig (b*2^k))):=(((HVV.out.below HB2.out).below HB3.out).under HB4.out HNE.out).below HB5.out
 have HBU5:=Lib.hid (HBU4.out.on HB5.out)
 have HN1:=Lib.hid HN.out.1
 have HN2:=Lib.hid HN.out.2.1
 obtain ⟨V,hV⟩:∃ V,V=b*2^k:=⟨_,rfl⟩
 have hD:=Div.first2 us0 a (b*2^k) k la nv (by have:=qV3 a; rw [← HLA.out] at this; exact this) HUS.out HUL.out (by omega) hlab hk HN.out.2.2
 have HVlt:Hid (b*2^k<4294967296^nv):=by
  have:=qV3 (b*2^k)
  rw [HN1.out] at this
  exact this
 rw [← hV] at HVV5 HN1 HN2 hD HVlt
 have HD:=Lib.hid hD
 have HVE:=Lib.hid hV
 have HBv:=Lib.hid hb45
 have hwsz:=HBv.out.size
 have HVP:Hid (0<V):=by
  have h1:=HN1.out
  rcases Nat.eq_zero_or_pos V with h | h
  · rw [h,qJ4] at h1; simp at h1; omega
  · exact h
 clear hD hV hb45 HX HY HXd HYd HX0 HY0 HVV HBU HBU3 HBU4 HVA HB0 HB1 HB2 HB3 HB4 HB5 HN HT HR
 go_wp2
 go_loopw [13] (fun i wr=>∃ (j:Nat) (us qs:List Nat),j≤la+2-nv∧i=.int .i64 ((j:Int)-1)∧Hid (Div us0 us qs V j (la+2) nv)∧Hid (Buf wr gu us)∧Hid (Buf wr gq qs)∧Hid (Words wr (.slice Av nv cv) (dig V))∧Hid (Below w.heap.size w wr)) (fun i _=>(intOf i+1).toNat)
 case atStart=>exact ⟨la+2-nv,us0,List.replicate (la+2-nv) 0,by omega,by go_num,HD,HBU5,HBQ,HVV5,HBv⟩
 case round =>
  obtain ⟨j,us,qs,hj,rfl,hd,hbu,hbq,hvw,hbel⟩:=hrel
  clear HD HBU5 HBQ HVV5 HBv
  by_cases hj0:0<j
  · obtain ⟨j,rfl⟩:∃ j',j=j'+1:=⟨j-1,by omega⟩
    have e1:((j+1:Nat):Int)-1=(j:Int):=by omega
    rw [e1]
    clear e1
    have hlu:=Lib.hid hd.out.lu
    have hlq:=Lib.hid hd.out.lq
    have hwu:=Lib.hid hbu.out.1
    have HW:=Lib.hid (hd.out.window hwu.out HVlt.out (by omega))
    obtain ⟨mid,hmid⟩:∃ mid,mid=(us.drop j).take (nv+1):=⟨_,rfl⟩
    obtain ⟨x0,hx0⟩:∃ x,x=us.getD (j+nv) 0:=⟨_,rfl⟩
    obtain ⟨x1,hx1⟩:∃ x,x=us.getD (j+nv-1) 0:=⟨_,rfl⟩
    obtain ⟨v1,hv1⟩:∃ x,x=(dig V).getD (nv-1) 0:=⟨_,rfl⟩
    obtain ⟨bv,ov,rfl,hcv⟩:=hvw.out.open_ (by omega)
    have c0:=hbu.out.cell (j+nv) (by rw [hlu.out]; omega)
    have c1:=hbu.out.cell (j+nv-1) (by rw [hlu.out]; omega)
    rw [← hx0] at c0
    rw [← hx1] at c1
    have c3:wr.cell? ⟨bv,ov+(nv-1),none⟩=some (.int .u32 (v1:Int)):=by rw [hv1]; exact hcv (nv-1) (by omega)
    have b0:x0<4294967296:=by rw [hx0]; exact hwu.out.getD _
    have b1:x1<4294967296:=by rw [hx1]; exact hwu.out.getD _
    have b3:v1<4294967296:=by rw [hv1]; exact (zZ4 V).getD _
    have b3':2147483648≤v1:=by rw [hv1]; exact HN2.out
    obtain ⟨top,htop⟩:∃ top,top=x0*4294967296+x1:=⟨_,rfl⟩
    have hti:(x0:Int)*4294967296+(x1:Int)=(top:Int):=by omega
    have hxb:(x0:Int)*4294967296≤18446744069414584320:=by omega
    have htb:top≤18446744073709551615:=by omega
    obtain ⟨q0,hq0⟩:∃ q0,q0=min (top/v1) 4294967295:=⟨_,rfl⟩
    obtain ⟨tq,htq⟩:∃ tq,tq=top/v1:=⟨_,rfl⟩
    have htqi:(top:Int)/(v1:Int)=(tq:Int):=by rw [htq]; rfl
    have htqb:tq≤18446744073709551615:=by rw [htq]; exact Nat.le_trans (Nat.div_le_self _ _) htb
    have HG0:Hid (val mid<(q0+1)*V):=by
     rw [Hid,hq0,hmid]
     have hw5:=HW.out.2.2.1
     refine guess_first (P:=4294967296^(nv-1)) ?_ ?_ (by omega) HVP.out HW.out.2.2.2.2.2
     · have h1:=qV0 ((us.drop j).take (nv+1)) nv (by omega)
       have h2:=qV0 ((us.drop j).take (nv+1)) (nv-1) (by omega)
       rw [show nv-1+1=nv by omega] at h2
       rw [qQ8 _ _ (by omega)] at h1
       have h3:=qY6 (((us.drop j).take (nv+1)).take (nv-1)) (((hwu.out.drop j).take _).take _)
       rw [List.length_take,Nat.min_eq_left (by omega)] at h3
       have e4:((us.drop j).take (nv+1)).getD nv 0=x0:=by rw [hx0]; simp [List.getD,List.getElem?_take]
       have e5:((us.drop j).take (nv+1)).getD (nv-1) 0=x1:=by rw [hx1,show j+nv-1=j+(nv-1) by omega]; simp [List.getD,List.getElem?_take,show nv-1<nv+1 by omega]
       rw [e4] at h1
       rw [e5] at h2
       have e6:4294967296^nv=4294967296^(nv-1)*4294967296:=by rw [← Nat.pow_succ]; congr 1; omega
       rw [h1,h2,htop,e6]
       generalize 4294967296^(nv-1)=P at *
       generalize val (((us.drop j).take (nv+1)).take (nv-1))=lo at *
       have e7:(x0*4294967296+x1+1)*P=P*x1+P*4294967296*x0+P:=by
        rw [Nat.add_mul,Nat.add_mul,Nat.one_mul,Nat.mul_comm x1,Nat.mul_comm (x0*4294967296),Nat.mul_comm x0,← Nat.mul_assoc]
        omega
       omega
     · have h1:=qV0 (dig V) (nv-1) (by have:=HN1.out; omega)
       rw [show nv-1+1=nv by omega,qQ8 _ _ (by have:=HN1.out; omega),qQ3,← hv1] at h1
       rw [Nat.mul_comm]
       omega
    have hcase:(4294967295<tq∧q0=4294967295)∨(tq≤4294967295∧q0=tq):=by
     rw [hq0,← htq]
     omega
    have HTOP:=Lib.hid htop
    have HMID:=Lib.hid hmid
    have i1:(0:Int)≤(j:Int)+(nv:Int):=by omega
    have i2:(j:Int)+(nv:Int)<(la:Int)+2:=by omega
    have i3:(0:Int)≤(j:Int)+(nv:Int)-1:=by omega
    have i4:(j:Int)+(nv:Int)-1<(la:Int)+2:=by omega
    have i5:(0:Int)≤(nv:Int)-1:=by omega
    have hv11:(1:Int)≤(v1:Int):=by omega
    clear hcv hx0 hx1 hv1 htop hq0 htq hmid
    obtain ⟨wo,rfl⟩:∃ wo:World,wo=wr:=⟨_,rfl⟩
    have hnvb:nv≤4294967296:=by omega
    have hlab2:j+nv+1≤la+2:=by omega
    have hlab3:la+2≤8589934592:=by omega
    rcases hcase with ⟨hcs,rfl⟩ | ⟨hcs,rfl⟩
    all_goals
     first
      | have hci:(4294967295:Int)<(tq:Int):=by omega
      | have hci:(q0:Int)≤4294967295:=by omega
     go_wp2
     go_quiet (fail)
     go_wp2
     clear c0 c1 c3 hti hxb htqi hci i1 i2 i3 i4 i5 hv11
     go_loopw [15] (fun qv wr=>∃ (q:Nat),q<4294967296∧qv=.int .u64 (q:Int)∧Hid (val mid<(q+1)*V)∧Hid (Below wo.heap.size wo wr)) (fun qv _=>(intOf qv).toNat)
     case atStart=>exact ⟨_,by first | exact Nat.lt_succ_of_le hcs | decide | omega,by first | rfl | go_num,HG0,Below.drewN_ (Below.refl _ _) _⟩
     case round =>
      obtain ⟨q,hqb,rfl,hqv,hbo⟩:=hrel
      by_cases hf:q*V≤val mid
      · go_wp2_with fail
        refine (fits_any (hvw.out.below hbo.out) (hbu.out.on hbo.out) hlu.out hlab3 hlab2 hnvb hqb true (by rw [← HMID.out]; simpa using hf)).mono ?_
        rintro e w6 ⟨rfl,hb6⟩
        have HB6:=Lib.hid (hbo.out.trans (hb6.mono hbo.out.size))
        have HBQ6:=Lib.hid (hbq.out.on HB6.out)
        have HBU6:=Lib.hid (hbu.out.on HB6.out)
        have HVW6:=Lib.hid (hvw.out.below HB6.out)
        have HBEL6:=Lib.hid (hbel.out.trans (HB6.out.mono hbel.out.size))
        have hst:=HBQ6.out.cell j (by rw [hlq.out]; omega)
        have hfz:=HBQ6.out.frozen j
        have hgq6:=HBQ6.out.lt
        have HQF:=Lib.hid hf
        have hjq:j<la+2-nv:=by omega
        clear hb6 hf hst hfz
        have hst:w6.cell? ⟨gq,j,none⟩=some (.int .u32 (qs.getD j 0:Nat)):=HBQ6.out.cell j (by rw [hlq.out]; omega)
        have hfz:=HBQ6.out.frozen j
        have hset:=HBQ6.out.set j q (q:Int) hqb rfl
        have honly:Only gq w6 (w6.setCell ⟨gq,j,none⟩ (.int .u32 (q:Int))):=(Only.refl gq w6).set j _
        have HBQ7:=Lib.hid hset
        have HBU7:=Lib.hid (HBU6.out.only honly (by omega))
        have HVW7:=Lib.hid (Only.words HVW6.out honly (fun b o hA=>by have:=HNE.out b o hA; omega))
        have HBEL7:=Lib.hid (HBEL6.out.setCell (show w.heap.size≤gq by omega) (p:=⟨gq,j,none⟩) (.int .u32 (q:Int)))
        have hgq7:gq<(w6.setCell ⟨gq,j,none⟩ (.int .u32 (q:Int))).heap.size:=hset.lt
        have hgu7:=HBU7.out.lt
        clear hset honly HBQ6 HBU6 HVW6 HBEL6 HB6
        go_wp2
        generalize w6.setCell ⟨gq,j,none⟩ (.int .u32 (q:Int))=w7 at HBQ7 HBU7 HVW7 HBEL7 hgq7 hgu7 ⊢
        clear hst hfz hbo hbu hbq hvw hbel
        obtain ⟨pre,hpre⟩:∃ pre,pre=us.take j:=⟨_,rfl⟩
        obtain ⟨post,hpost⟩:∃ post,post=us.drop (j+nv+1):=⟨_,rfl⟩
        have HPL:Hid (pre.length=j):=by rw [hpre]; exact HW.out.2.1
        have HML:Hid (mid.length=nv+1):=by rw [HMID.out]; exact HW.out.2.2.1
        have HUW:Hid (us=pre++(mid++post)):=by rw [hpre,hpost,HMID.out]; exact HW.out.1
        have HPRE:=Lib.hid hpre
        have HPOST:=Lib.hid hpost
        clear hpre hpost
        go_loopw [16,17,18] (fun bv' cv' iv wr=>∃ (k c b:Nat) (ms:List Nat),k≤nv+1∧c<4294967296∧b≤1∧bv'=.int .u64 (b:Int)∧cv'=.int .u64 (c:Int)∧iv=.int .i64 (k:Int)∧Hid (ms.length=k)∧Hid (val ms+q*val ((dig V).take k)=val (mid.take k)+4294967296^k*(b+c))∧Hid (Buf wr gu (pre++((ms++mid.drop k)++post)))∧Hid (Only gu w7 wr)) (fun _ _ iv _=>nv+1-(intOf iv).toNat)
        case atStart =>
         refine ⟨0,0,0,[],by omega,by omega,by omega,rfl,rfl,rfl,rfl,by simp [Hid,val],?_,Only.refl _ _⟩
         rw [List.nil_append,List.drop_zero,Hid,← HUW.out]
         exact HBU7.out
        case round =>
         obtain ⟨k,c,b',ms,hk,hc,hb',rfl,rfl,rfl,HK,HE,hbuf,ho⟩:=hrel
         by_cases hk1:k<nv+1
         · have hvw8:=Only.words HVW7.out ho.out (fun b o hA=>by have:=HNE.out b o hA; omega)
           obtain ⟨x,hx⟩:∃ x,x=mid.getD k 0:=⟨_,rfl⟩
           obtain ⟨y,hy⟩:∃ y,y=(dig V).getD k 0:=⟨_,rfl⟩
           have hx32:x<4294967296:=by rw [hx,HMID.out]; exact ((hwu.out.drop j).take _).getD k
           have hy32:y<4294967296:=by rw [hy]; exact (zZ4 V).getD k
           have hcell:=hbuf.out.cell (j+k) (by rw [mid_len pre ms mid post k HK.out (by rw [HML.out]; omega),HPL.out,HML.out]; omega)
           have hfz:=hbuf.out.frozen (j+k)
           have hg:=mid_get pre ms mid post k HK.out (by rw [HML.out]; omega)
           rw [HPL.out] at hg
           rw [hg,← hx] at hcell
           clear hg
           obtain ⟨m,hm⟩:∃ m,m=q*y:=⟨_,rfl⟩
           have hmi:(q:Int)*(y:Int)=(m:Int):=by rw [hm]; exact (Int.natCast_mul _ _).symm
           have hcar:=step_carry q y c hqb hy32 hc
           rw [← hm] at hcar
           obtain ⟨hc1,hc2⟩:=hcar
           obtain ⟨t,ht⟩:∃ t,t=c+m:=⟨_,rfl⟩
           have hti:(c:Int)+(m:Int)=(t:Int):=by omega
           rw [← ht] at hc1 hc2
           obtain ⟨lo,hlo⟩:∃ lo,lo=t % 4294967296:=⟨_,rfl⟩
           have hloi:(t:Int) % 4294967296=(lo:Int):=by omega
           have hlob:lo<4294967296:=by omega
           obtain ⟨X,hX⟩:∃ X,X=4294967296+x-lo-b':=⟨_,rfl⟩
           have hXi:4294967296+(x:Int)-(lo:Int)-(b':Int)=(X:Int):=by omega
           have hXb:X≤8589934591:=by omega
           have HXX:=Lib.hid hX
           have HX:=Lib.hid hx
           have HY:=Lib.hid hy
           have HM:=Lib.hid hm
           have HT:=Lib.hid ht
           have HLO:=Lib.hid hlo
           have HV8:=Lib.hid hvw8
           have hszz:=hbuf.out.lt
           have hki:(k:Int)+(j:Int)=((j+k:Nat):Int):=by omega
           clear hvw8 hx hy hm ht hlo hX
           go_wp2_with fail
           refine (at_any HV8.out k (by omega)).mono ?_
           rintro e w8 ⟨rfl,rfl⟩
           rw [← HY.out]
           go_wp2
           go_roundw
           case rel =>
            refine ⟨k+1,t/4294967296,1-X/4294967296,ms++[X % 4294967296],by omega,hc2,by omega,by go_num,by go_num,by go_num,?_,?_,?_,ho.out.set _ _⟩
            · rw [Hid,List.length_append,HK.out]; rfl
            · exact step_val mid (dig V) ms k q c b' (X % 4294967296) (1-X/4294967296) t HK.out HE.out (by rw [HT.out,HM.out,HY.out]) (by rw [← HLO.out,← HX.out]; have:=HXX.out; omega)
            · have h:=hbuf.out.set (j+k) (X % 4294967296) ((X:Int) % 4294967296) (by omega) (by omega)
              have h2:=mid_set pre ms mid post k (X % 4294967296) HK.out (by rw [HML.out]; omega)
              rw [HPL.out] at h2
              rw [h2] at h
              first | exact h | (rw [Nat.add_comm k j]; exact h)
           case measure=>simp [intOf]; omega
         · obtain rfl:k=nv+1:=by omega
           have hfin:=take_end (U:=val mid) hbuf.out.1.right.left.left HK.out (by
            have h:=HE.out
            rwa [qQ8 (dig V) (nv+1) (by have:=HN1.out; omega),qQ3,qQ8 mid (nv+1) (by rw [HML.out]; exact Nat.le_refl _)] at h) HQF.out hqv.out
           have hnx:=Lib.hid (hd.out.next (q:=q) (ms:=ms) hwu.out HVlt.out (by omega) HUL.out (by rw [HK.out,← HMID.out,HML.out]) (by rw [← HMID.out]; exact hfin.1) hfin.2)
           have hbuf2:=hbuf.out
           rw [List.drop_of_length_le (show mid.length≤nv+1 by rw [HML.out]; exact Nat.le_refl _),List.append_nil,HPRE.out,HPOST.out] at hbuf2
           have HBUF2:=Lib.hid hbuf2
           have HBQ9:=Lib.hid (HBQ7.out.only ho.out (by omega))
           have HVW9:=Lib.hid (Only.words HVW7.out ho.out (fun b o hA=>by have:=HNE.out b o hA; omega))
           have HBEL9:=Lib.hid (HBEL7.out.trans (ho.out.below hBgu HBEL7.out.size))
           clear hfin hbuf2
           go_wp2
           go_roundw
           case rel=>exact ⟨j,_,_,by omega,by go_num,hnx,HBUF2,HBQ9,HVW9,HBEL9⟩
           case measure=>simp [intOf]
      · have hq1:1≤q:=by
         rcases Nat.eq_zero_or_pos q with h | h
         · subst h; simp at hf
         · exact h
        have HQF:=Lib.hid (Nat.not_le.1 hf)
        go_wp2_with fail
        refine (fits_any (hvw.out.below hbo.out) (hbu.out.on hbo.out) hlu.out hlab3 hlab2 hnvb hqb false (by rw [← HMID.out]; simpa using hf)).mono ?_
        rintro e w6 ⟨rfl,hb6⟩
        have HB6:=Lib.hid (hbo.out.trans (hb6.mono hbo.out.size))
        clear hb6 hf
        go_wp2
        go_roundw
        case rel=>exact ⟨q-1,by omega,by go_num,by rw [Hid,Nat.sub_add_cancel hq1]; exact HQF.out,HB6⟩
        case measure=>simp [intOf]; omega
  · obtain rfl:j=0:=by omega
    have HLAST:=Lib.hid (Div.last2 (b:=b) (k:=k) (L:=la+2) (n:=nv) (us0:=us0) (us:=us) (qs:=qs) (by rw [← HVE.out]; exact hd.out) HUS.out)
    have hlu:=Lib.hid hd.out.lu
    have hlq:=Lib.hid hd.out.lq
    have hbw:=hbu.out.words (cap:=la+2) (by rw [hlu.out]; omega) (by rw [hlu.out]; exact Nat.le_refl _)
    have hqw:=hbq.out.words (cap:=la+2-nv) (by rw [hlq.out]; omega) (by rw [hlq.out]; exact Nat.le_refl _)
    rw [hlq.out] at hqw
    rw [hlu.out] at hbw
    have HBW:=Lib.hid hbw
    have HQW:=Lib.hid hqw
    clear hbw hqw
    go_wp2_with fail
    refine (qY0 HQW.out).mono ?_
    rintro e w7 ⟨rfl,rfl⟩
    go_wp2_with fail
    refine (qY0 HBW.out).mono ?_
    rintro e w8 ⟨rfl,rfl⟩
    have HBT:=Lib.hid HBW.out.trim_
    have hbtl:(trim us).length≤17179869184:=HBT.out.2.1
    go_wp2_with fail
    refine (down_any HBT.out hbtl k (by omega)).mono ?_
    rintro e w9 ⟨vr,rfl,hvr,hb9⟩
    have HVR:=Lib.hid hvr
    have HB9:=Lib.hid hb9
    clear hvr hb9
    go_wp2
    go_ret2
    refine ⟨.slice (some ⟨gq,0,none⟩) (trim qs).length (la+2-nv),vr,rfl,?_,?_,hbel.out.trans (HB9.out.mono hbel.out.size)⟩
    · rw [← zZ2 qs _ HQW.out.1 HLAST.out.1]
      exact HQW.out.trim_.below HB9.out
    · have:=HVR.out
      rw [val_trim,HLAST.out.2] at this
      exact this
theorem divided_any {A B:Option Addr} {la ca lb cb a b:Nat} {w:World} (hx:Words w (.slice A la ca) (dig a)) (hy:Words w (.slice B lb cb) (dig b)) (hb:0<b) (hla:la≤4294967296) :
  Calls Tryz.prog 340 #[.slice A la ca,.slice B lb cb] w (DivPost w a b):=by
 rcases Nat.lt_or_ge a b with h | h
 · exact divided_small hx hy h
 · have hl:=hy.len.1
   have hp:0<(dig b).length:=by rw [dig_pos b hb]; simp
   rcases (by omega:lb=1∨2≤lb) with h1 | h1
   · subst h1
     exact divided_word hx hy h
   · exact divided_long hx hy h h1 hla
theorem BoxAt.new_at {w:World} {n:Nat} (cs:Array Value) (t:TypeId) (hn:n=w.heap.size):BoxAt (w.alloc (.cells cs t)) n cs t:=hn▸BoxAt.new w cs t
structure Two (w0 w:World) (v1 v2:Array Value):Prop where
 below:Below w0.heap.size w0 w
 one:BoxAt w w0.heap.size v1 25
 two:BoxAt w (w0.heap.size+1) v2 25
 place:BoxAt w (w0.heap.size+1+1) #[.bool false,.string ⟨#[]⟩,.bool false,.string ⟨#[]⟩] 25
theorem Two.size {w0 w:World} {v1 v2:Array Value} (h:Two w0 w v1 v2):w0.heap.size+3≤w.heap.size:=h.place.lt
theorem BoxAt.put4 {w:World} {g:Nat} {a0 a1 a2 a3:Value} {T:TypeId} (h:BoxAt w g #[a0,a1,a2,a3] T) (v0 v1 v2 v3:Value) :
  BoxAt ((((w.setCell ⟨g,0,none⟩ v0).setCell ⟨g,1,none⟩ v1).setCell ⟨g,2,none⟩ v2).setCell ⟨g,3,none⟩ v3) g #[v0,v1,v2,v3] T:=(((h.set 0 v0).set 1 v1).set 2 v2).set 3 v3
theorem below_put4 {w0 w:World} {g B:Nat} (h:Below B w0 w) (hg:B≤g) (v0 v1 v2 v3:Value):Below B w0 ((((w.setCell ⟨g,0,none⟩ v0).setCell ⟨g,1,none⟩ v1).setCell ⟨g,2,none⟩ v2).setCell ⟨g,3,none⟩ v3) :=
 (((h.setCell hg _).setCell hg _).setCell hg _).setCell hg _
instance (q:Rat):Decidable (Fit q):=inferInstanceAs (Decidable (_∧_))
def ansK (q:Rat):Int:=if Fit q then 0 else 4
theorem qQ9 {w0 w:World} (h:Below w0.heap.size w0 w) (o:Obj):Below w0.heap.size w0 (w.alloc o):=h.trans ((qZ4 w o).mono h.size)
theorem zJ4 {w0 w:World} {g B:Nat} (h:Below B w0 w) (hg:B≤g) (v0 v1:Value):Below B w0 ((w.setCell ⟨g,0,none⟩ v0).setCell ⟨g,1,none⟩ v1) :=
 (h.setCell hg _).setCell hg _
def Frames (w:World) (l:List (Nat × Array Value × TypeId)):Prop:=∀ x∈l,BoxAt w x.1 x.2.1 x.2.2
theorem Frames.nil (w:World):Frames w []:=fun _ h=>nomatch h
theorem Frames.on {w w':World} {l:List (Nat × Array Value × TypeId)} (h:Frames w l) (k:Below w.heap.size w w'):Frames w' l:=fun x hx=>(h x hx).on k
theorem Frames.push {w:World} {l:List (Nat × Array Value × TypeId)} (h:Frames w l) (n:Nat) (cs:Array Value) (t:TypeId) (hn:n=w.heap.size):Frames (w.alloc (.cells cs t)) ((n,cs,t)::l):=by
 intro x hx
 rcases List.mem_cons.1 hx with rfl | hx
 · exact BoxAt.new_at cs t hn
 · exact (h x hx).on (qZ4 w _)
theorem Frames.get {w:World} {l:List (Nat × Array Value × TypeId)} (h:Frames w l) (i:Nat) {x:Nat × Array Value × TypeId} (hx:l[i]?=some x):BoxAt w x.1 x.2.1 x.2.2:=h x (List.mem_of_getElem? hx)
theorem str_empty {s:ByteArray} {n:Nat} (h:s=mag n):s.size=0↔n=0:=by
 rw [h,mag_size]
 exact List.length_eq_zero_iff.trans (zY2 n)
theorem rsign_any {w:World} (p:Bool) (s:ByteArray) (n:Int) (hp:p=decide (n<0)) (hs:s=mag n.natAbs) :
  Calls Tryz.prog 255 #[.agg #[.bool p,.string s]] w fun e w'=>e=.returned (.int .i64 n.sign)∧Below w.heap.size w w':=by
 have HB:=Lib.hid (qZ4 w (.cells #[.bool p,.string s] 23))
 have HP:=Lib.hid hp
 have HE:=Lib.hid (str_empty hs)
 clear hp hs
 by_cases h0:s.size=0
 · obtain rfl:=qY7 h0
   have HN:Hid (n=0):=by have:=HE.out.1 h0; unfold Hid; omega
   clear h0
   go_enter Tryz.func255,Tryz.ntmps255
   go_wp2
   go_ret
   exact ⟨by rw [HN.out]; rfl,HB.out⟩
 · obtain ⟨hE,hE2⟩:=zQ1 h0
   have HN:Hid (n≠0):=fun e=>h0 (HE.out.2 (by rw [e]; rfl))
   clear h0
   cases p
   · go_enter Tryz.func255,Tryz.ntmps255
     go_wp2
     go_ret
     refine ⟨?_,HB.out⟩
     have h1:¬ n<0:=of_decide_eq_false HP.out.symm
     have h2:=HN.out
     rw [Int.sign_eq_one_of_pos (by omega)]
     rfl
   · go_enter Tryz.func255,Tryz.ntmps255
     go_wp2
     go_ret
     refine ⟨?_,HB.out⟩
     have h1:n<0:=of_decide_eq_true HP.out.symm
     rw [Int.sign_eq_neg_one_of_neg h1]
     rfl
def qV6 (p:Bool) (s:ByteArray):Prop:=s.size=0∧p=false∨s.size≠0∧head s≠0
set_option maxRecDepth 100000 in
theorem rformed_any {w:World} (p:Bool) (s:ByteArray) (r:Bool) (hr:r=true↔qV6 p s) :
  Calls Tryz.prog 254 #[.agg #[.bool p,.string s]] w fun e w'=>e=.returned (.bool r)∧Below w.heap.size w w':=by
 have HB:=Lib.hid (qZ4 w (.cells #[.bool p,.string s] 23))
 have HR:=Lib.hid hr
 clear hr
 by_cases h0:s.size=0
 · obtain rfl:=qY7 h0
   have HQ:Hid (r=!p):=by
    have h1:=HR.out
    unfold qV6 at h1
    cases p<;>cases r<;>simp_all [Hid]
   clear h0
   go_enter Tryz.func254,Tryz.ntmps254
   go_wp2
   go_ret
   exact ⟨by rw [HQ.out]; rfl,HB.out⟩
 · obtain ⟨hE,hE2⟩:=zQ1 h0
   have hp:0<s.size:=by omega
   obtain ⟨t,ht⟩:∃ t,t=head s:=⟨_,rfl⟩
   have ht2:s[0].toNat=t:=by rw [ht]; exact head_eq hp
   have HQ:Hid (r=true↔t≠0):=by
    have h1:=HR.out
    unfold qV6 at h1
    rw [← ht] at h1
    exact ⟨fun h=>(h1.1 h).elim (fun k=>absurd k.1 h0) (fun k=>k.2),fun h=>h1.2 (.inr ⟨h0,h⟩)⟩
   clear ht
   by_cases hz:t=0
   · subst hz
     go_enter Tryz.func254,Tryz.ntmps254
     go_wp2
     go_ret
     refine ⟨?_,HB.out⟩
     cases r
     · rfl
     · exact absurd rfl (HQ.out.1 rfl)
   · have hz1:((t:Int)==0)=false:=by rw [beq_eq_false_iff_ne]; omega
     have hz2:((t:Int) != 0)=true:=by rw [bne_iff_ne]; omega
     go_enter Tryz.func254,Tryz.ntmps254
     go_wp2
     go_ret
     refine ⟨?_,HB.out⟩
     rw [HQ.out.2 hz]
     rfl
theorem rneg_any {w:World} (p:Bool) (s:ByteArray) (n:Int) (hp:p=decide (n<0)) (hs:s=mag n.natAbs) :
  Calls Tryz.prog 281 #[.agg #[.bool p,.string s]] w fun e w'=>∃ q t,e=.returned (.agg #[.bool q,.string t])∧Hid (q=decide (-n<0))∧Hid (t=mag (-n).natAbs)∧Below w.heap.size w w':=by
 have h1:=qZ4 w (.cells #[.bool p,.string s] 23)
 have h2:=qZ4 (w.alloc (.cells #[.bool p,.string s] 23)) (.cells #[.bool false,.string ⟨#[]⟩] 23)
 have HB:=Lib.hid (h1.trans (h2.mono h1.size))
 have HC:=Lib.hid (BoxAt.new_at (w:=w.alloc (.cells #[.bool p,.string s] 23)) (n:=w.heap.size+1) #[.bool false,.string ⟨#[]⟩] 23 (size_alloc w _).symm)
 obtain ⟨q,hq⟩:∃ q,q=decide (-n<0):=⟨_,rfl⟩
 have HQ:=Lib.hid hq
 have HT:Hid (s=mag (-n).natAbs):=by rw [Hid,Int.natAbs_neg]; exact hs
 have HE:=Lib.hid (str_empty hs)
 have hp0:=HC.out.cell 0 _ rfl
 have hp1:=HC.out.cell 1 _ rfl
 have hf:=HC.out.frozen
 have HP:=Lib.hid hp
 clear hp hs h1 h2 hq
 by_cases h0:s.size=0
 · obtain rfl:=qY7 h0
   have hn:n=0:=by have:=HE.out.1 h0; omega
   have hpf:p=false:=by rw [HP.out,hn]; rfl
   have hqf:q=false:=by rw [HQ.out,hn]; rfl
   subst hpf
   subst hqf
   clear h0 hn
   go_enter Tryz.func281,Tryz.ntmps281
   go_wp2
   have hk:=(HC.out.set 0 (.bool false)).set 1 (.string ⟨#[]⟩)
   have k0:=hk.cell 0 _ rfl
   have k1:=hk.cell 1 _ rfl
   exact bodyPost_ret (v:=.agg #[.bool false,.string ⟨#[]⟩]) (by simp [results,Tryz.results281,go_sem,k0,k1]) rfl ⟨_,_,rfl,HQ,HT,by first | exact HB.out | exact qQ9 (qZ4 w _) _⟩
 · obtain ⟨hE,hE2⟩:=zQ1 h0
   have hn:n≠0:=fun e=>h0 (HE.out.2 (by rw [e]; rfl))
   have hpq:p=!q:=by
    rw [HP.out,HQ.out]
    by_cases h1:n<0
    · rw [decide_eq_true h1,decide_eq_false (by omega)]; rfl
    · rw [decide_eq_false h1,decide_eq_true (by omega)]; rfl
   subst hpq
   clear h0 hn
   cases q
   all_goals
    go_enter Tryz.func281,Tryz.ntmps281
    go_wp2
   · have hk:=(HC.out.set 0 (.bool false)).set 1 (.string s)
     have k0:=hk.cell 0 _ rfl
     have k1:=hk.cell 1 _ rfl
     exact bodyPost_ret (v:=.agg #[.bool false,.string s]) (by simp [results,Tryz.results281,go_sem,k0,k1]) rfl ⟨_,_,rfl,HQ,HT,by first | exact HB.out | exact qQ9 (qZ4 w _) _⟩
   · have hk:=(HC.out.set 0 (.bool true)).set 1 (.string s)
     have k0:=hk.cell 0 _ rfl
     have k1:=hk.cell 1 _ rfl
     exact bodyPost_ret (v:=.agg #[.bool true,.string s]) (by simp [results,Tryz.results281,go_sem,k0,k1]) rfl ⟨_,_,rfl,HQ,HT,by first | exact HB.out | exact qQ9 (qZ4 w _) _⟩
theorem len_mag {s:ByteArray} {N:Nat} (hs:s=mag N) (h:s.size≤1000000000):(dig N).length≤250000001:=by
 have:=zW2 (n:=N) (k:=1000000000) (by rw [← hs]; exact h)
 omega
set_option maxHeartbeats 3200000 in
set_option maxRecDepth 100000 in
theorem rgcd_any {w0:World} (p q:Bool) (s t:ByteArray) (N M:Nat) (hs:s=mag N) (ht:t=mag M) (h1:s.size≤1000000000) (h2:t.size≤1000000000) :
  Calls Tryz.prog 256 #[.agg #[.bool p,.string s],.agg #[.bool q,.string t]] w0 fun e w'=>∃ g,e=.returned (.agg #[.bool false,.string g])∧Hid (g=mag (Nat.gcd N M))∧Below w0.heap.size w0 w':=by
 have hf0:=((Frames.nil w0).push w0.heap.size #[.bool p,.string s] 23 rfl).push (w0.heap.size+1) #[.bool q,.string t] 23 (by simp)
 have hf1:=hf0.push (w0.heap.size+1+1) #[.bool false,.string ⟨#[]⟩] 23 (by simp)
 have HB:=Lib.hid (qQ9 (qQ9 (qZ4 w0 (.cells #[.bool p,.string s] 23)) (.cells #[.bool q,.string t] 23)) (.cells #[.bool false,.string ⟨#[]⟩] 23))
 have HF:=Lib.hid hf1
 have HS:=Lib.hid hs
 have HT:=Lib.hid ht
 have KN:Hid ((dig N).length≤250000001):=len_mag hs h1
 have KM:Hid ((dig M).length≤250000001):=len_mag ht h2
 have H1:Hid (s.size≤4294967296):=Nat.le_trans h1 (by decide)
 have H2:Hid (t.size≤4294967296):=Nat.le_trans h2 (by decide)
 clear hs ht h1 h2 hf0 hf1
 go_enter Tryz.func256,Tryz.ntmps256
 go_wp2
 generalize ((w0.alloc (.cells #[.bool p,.string s] 23)).alloc (.cells #[.bool q,.string t] 23)).alloc (.cells #[.bool false,.string ⟨#[]⟩] 23)=w1 at HB HF ⊢
 refine qZ2 6 (fun w'=>Below w0.heap.size w0 w'∧Frames w' [(w0.heap.size+1+1,#[.bool false,.string ⟨#[]⟩],23),(w0.heap.size+1,#[.bool q,.string t],23),(w0.heap.size,#[.bool p,.string s],23)]) (fun w w'=>Below w.heap.size w w') (fun i w v=>match i with
   | 0=>v=.pointer (some ⟨w0.heap.size,1,none⟩)
   | 1=>v=.string s
   | 2=>∃ A c,v=.slice A (dig N).length c∧Words w (.slice A (dig N).length c) (dig N)
   | 3=>v=.pointer (some ⟨w0.heap.size+1,1,none⟩)
   | 4=>v=.string t
   | _=>∃ A c,v=.slice A (dig M).length c∧Words w (.slice A (dig M).length c) (dig M)) (by kernel_rfl) (by kernel_rfl) (by kernel_rfl) ⟨HB.out.drew,HF.out.on (Below.drew (Below.refl _ _))⟩ (fun _ _=>(Below.refl _ _)) ?_ ⟨?_,?_,?_,?_,?_,?_,trivial⟩ ?_
 · intro i w1 w2 v hC hC2 hE hV
   match i with
   | 0=>exact hV
   | 1=>exact hV
   | 2=>obtain ⟨A,c,e,h⟩:=hV; exact ⟨A,c,e,h.below hE⟩
   | 3=>exact hV
   | 4=>exact hV
   | _+5=>obtain ⟨A,c,e,h⟩:=hV; exact ⟨A,c,e,h.below hE⟩
 · intro a' w' hag hC hd K hK
   have e2:a'.tmps.getD 2 undef=.pointer (some ⟨w0.heap.size,0,none⟩):=hag 2 rfl
   go_step
   exact hK _ _ hC ((Below.refl _ _)) rfl
 · intro a' w' hag hC hd K hK
   have e9:a'.tmps.getD 9 undef=.pointer (some ⟨w0.heap.size,1,none⟩):=hd.1
   have hc0:=(hC.2.get 2 rfl).cell 1 (.string s) rfl
   have HK:=Lib.hid (hK (.string s) _ hC (Below.refl _ _) rfl)
   clear hK hC
   go_step
   exact HK.out
 · intro a' w' hag hC hd K hK
   have e10:a'.tmps.getD 10 undef=.string s:=hd.1
   go_step
   refine (qW8 s N HS.out H1.out).mono ?_
   rintro e w2 ⟨A,c,rfl,h1,h2⟩
   exact hK _ _ ⟨hC.1.trans (h2.mono hC.1.size),hC.2.on h2⟩ h2 ⟨_,_,rfl,h1⟩
 · intro a' w' hag hC hd K hK
   have e3:a'.tmps.getD 3 undef=.pointer (some ⟨w0.heap.size+1,0,none⟩):=hag 3 rfl
   go_step
   exact hK _ _ hC ((Below.refl _ _)) rfl
 · intro a' w' hag hC hd K hK
   have e12:a'.tmps.getD 12 undef=.pointer (some ⟨w0.heap.size+1,1,none⟩):=hd.1
   have hc0:=(hC.2.get 1 rfl).cell 1 (.string t) rfl
   have HK:=Lib.hid (hK (.string t) _ hC (Below.refl _ _) rfl)
   clear hK hC
   go_step
   exact HK.out
 · intro a' w' hag hC hd K hK
   have e13:a'.tmps.getD 13 undef=.string t:=hd.1
   go_step
   refine (qW8 t M HT.out H2.out).mono ?_
   rintro e w2 ⟨A,c,rfl,h1,h2⟩
   exact hK _ _ ⟨hC.1.trans (h2.mono hC.1.size),hC.2.on h2⟩ h2 ⟨_,_,rfl,h1⟩
 · intro u w' hC hall
   obtain ⟨u0,u1,u2,u3,u4,u5,_⟩:=hall
   have u0:u 0=.pointer (some ⟨w0.heap.size,1,none⟩):=u0
   have u1:u 1=.string s:=u1
   obtain ⟨A11,c11,eu2,h11⟩:=u2
   have u2:u 2=.slice A11 (dig N).length c11:=eu2
   have u3:u 3=.pointer (some ⟨w0.heap.size+1,1,none⟩):=u3
   have u4:u 4=.string t:=u4
   obtain ⟨A14,c14,eu5,h14⟩:=u5
   have u5:u 5=.slice A14 (dig M).length c14:=eu5
   simp only [qZ7,List.take_succ_cons,List.take_zero,Act.put,List.setIfInBounds_toArray,List.set_cons_succ,List.set_cons_zero,Nat.zero_add,Nat.reduceAdd,u0,u1,u2,u3,u4,u5]
   clear u0 u1 u2 u3 u4 u5
   have HC:=Lib.hid hC
   have H11:=Lib.hid h11
   have H14:=Lib.hid h14
   obtain ⟨lN,hlN⟩:∃ l,l=(dig N).length:=⟨_,rfl⟩
   obtain ⟨lM,hlM⟩:∃ l,l=(dig M).length:=⟨_,rfl⟩
   rw [← hlN] at H11
   rw [← hlM] at H14
   rw [← hlN,← hlM]
   clear hC h11 h14 hlN hlM
   go_wp2
   go_loopg [5,6] M (fun k x y wr=>∃ (A B:Option Addr) (la ca lb cb:Nat) (u v:Nat),x=.slice A la ca∧y=.slice B lb cb∧Hid (Words wr (.slice A la ca) (dig u))∧Hid (Words wr (.slice B lb cb) (dig v))∧Hid (Nat.gcd u v=Nat.gcd N M)∧Hid (v≤k)∧Hid ((dig u).length≤250000001)∧Hid ((dig v).length≤250000001)∧Hid (Below w0.heap.size w0 wr)∧Hid (BoxAt wr (w0.heap.size+1+1) #[.bool false,.string ⟨#[]⟩] 23))
   case atStart=>exact ⟨_,_,_,_,_,_,N,M,rfl,rfl,H11,H14,rfl,Nat.le_refl _,KN,KM,HC.out.1,HC.out.2.get 0 rfl⟩
   case round =>
    obtain ⟨A,B,la,ca,lb,cb,u,v,rfl,rfl,hu,hv,hg,hk,hul,hvl,hb,hbox⟩:=hrel
    have hl:=hv.out.len.1
    have hlb:=hv.out.2.1
    by_cases h0:0<lb
    · have hv0:0<v:=by
       rcases Nat.eq_zero_or_pos v with h | h
       · rw [h,qJ4] at hl; simp at hl; omega
       · exact h
      have HV0:=Lib.hid hv0
      have hlb2:lb≤17179869184:=by omega
      clear hl hlb hv0
      go_wp2_with fail
      refine (divided_any hu.out hv.out HV0.out (by rw [hu.out.len.1]; exact Nat.le_trans hul.out (by decide))).mono ?_
      rintro e w3 ⟨v1,v2,rfl,h1,h2,h3⟩
      obtain ⟨A2,m2,c2,rfl⟩:=h2.form
      have H2:=Lib.hid h2
      have H3:=Lib.hid h3
      clear h1 h2 h3
      go_wp2
      go_roundg (u % v)
      case measure=>exact Nat.lt_of_lt_of_le (Nat.mod_lt _ HV0.out) hk.out
      case rel =>
       refine ⟨B,A2,lb,cb,m2,c2,v,u % v,rfl,rfl,hv.out.below H3.out,H2.out,?_,Nat.le_refl _,hvl.out,?_,hb.out.trans (H3.out.mono hb.out.size),hbox.out.on H3.out⟩
       · rw [Hid,← hg.out,Nat.gcd_comm v,← Nat.gcd_rec,Nat.gcd_comm]
       · exact Nat.le_trans (qJ0 _ _ (Nat.le_of_lt (Nat.mod_lt _ HV0.out))) hvl.out
    · obtain rfl:lb=0:=by omega
      have hv0:=(qX4 v).1 (List.eq_nil_of_length_eq_zero hl.symm)
      subst hv0
      have hgu:=hg.out
      rw [Nat.gcd_zero_right] at hgu
      have HG:=Lib.hid hgu
      clear hl hlb hgu
      go_wp2_with fail
      refine (qH3 false hu.out (by rw [hu.out.len.1]; exact Nat.le_trans hul.out (by decide))).mono ?_
      rintro e w3 ⟨rfl,hb3⟩
      have hval:qZ9 (sg false (val (dig u)))=.agg #[.bool false,.string (mag u)]:=by rw [qQ3]; exact wholeV_nat u
      rw [hval]
      obtain ⟨g,hg2⟩:∃ g,g=mag u:=⟨_,rfl⟩
      rw [← hg2]
      have HGG:Hid (g=mag (Nat.gcd N M)):=by rw [hg2,HG.out]; rfl
      have HX:=Lib.hid (hbox.out.on hb3)
      have HB3:=Lib.hid (hb.out.trans (hb3.mono hb.out.size))
      have hp0:=HX.out.cell 0 _ rfl
      have hp1:=HX.out.cell 1 _ rfl
      have hf:=HX.out.frozen
      clear hval hg2 hb3
      go_wp2
      have hk:=(HX.out.set 0 (.bool false)).set 1 (.string g)
      have k0:=hk.cell 0 _ rfl
      have k1:=hk.cell 1 _ rfl
      exact bodyPost_ret (v:=.agg #[.bool false,.string g]) (by simp [results,Tryz.results256,go_sem,k0,k1]) rfl ⟨_,rfl,HGG,zJ4 HB3.out (by omega) _ _⟩
theorem sg_exact {n m:Int} (h:m ∣ n):sg (decide (n<0) != decide (m<0)) (n.natAbs/m.natAbs)=n/m:=by
 obtain ⟨k,rfl⟩:=h
 by_cases hm:m=0
 · subst hm; simp [sg]
 have h1:m*k/m=k:=Int.mul_ediv_cancel_left k hm
 have h2:(m*k).natAbs/m.natAbs=k.natAbs:=by
  rw [Int.natAbs_mul]
  exact Nat.mul_div_cancel_left _ (by omega)
 rw [h1,h2]
 by_cases hk:k=0
 · subst hk; simp [sg]
 rcases Int.lt_or_gt_of_ne hm with h3 | h3<;>rcases Int.lt_or_gt_of_ne hk with h4 | h4
 · have:¬ m*k<0:=by have:=Int.mul_pos_of_neg_of_neg h3 h4; omega
   simp [sg,this,h3]; omega
 · have:=Int.mul_neg_of_neg_of_pos h3 h4
   simp [sg,this,h3]; omega
 · have:=Int.mul_neg_of_pos_of_neg h3 h4
   simp [sg,this,show ¬ m<0 by omega]; omega
 · have:¬ m*k<0:=by have:=Int.mul_pos h3 h4; omega
   simp [sg,this,show ¬ m<0 by omega]; omega
end Go.Proofs.YtbepimnlleilfaaGreat
end
section
namespace Go.Proofs.YtbepimnlleilfaaGreat
section
open Go.RowKit
def DMPost (k:Int) (w0:World) (e:Ending) (w':World):Prop:=∃ a u,e=.returned (.tuple #[.agg #[.bool a,.string u],.agg #[.bool false,.string ⟨#[]⟩]])∧Hid (a=decide (k<0))∧Hid (u=mag k.natAbs)∧Below w0.heap.size w0 w'
theorem BoxAt.other {w:World} {g b i:Nat} {v:Value} {cs:Array Value} {t:TypeId} (h:BoxAt w g cs t) (hne:g≠b):BoxAt (w.setCell ⟨b,i,none⟩ v) g cs t:=by
 unfold BoxAt at h
 unfold BoxAt
 rw [Below.heap_setCell w ⟨b,i,none⟩ v g hne]
 exact h
set_option maxHeartbeats 6400000 in
set_option maxRecDepth 100000 in
theorem zZ6 {w0:World} (p q:Bool) (s t:ByteArray) (n m:Int) (hp:p=decide (n<0)) (hq:q=decide (m<0)) (hs:s=mag n.natAbs) (ht:t=mag m.natAbs) (h1:s.size≤1000000000) (h2:t.size≤1000000000) (hm:m≠0) (hd:m ∣ n) :
  Calls Tryz.prog 257 #[.agg #[.bool p,.string s],.agg #[.bool q,.string t]] w0 (DMPost (n/m) w0):=by
 have hf0:=((Frames.nil w0).push w0.heap.size #[.bool p,.string s] 23 rfl).push (w0.heap.size+1) #[.bool q,.string t] 23 (by simp)
 have hf1:=(hf0.push (w0.heap.size+1+1) #[.bool false,.string ⟨#[]⟩] 23 (by simp)).push (w0.heap.size+1+1+1) #[.bool false,.string ⟨#[]⟩] 23 (by simp)
 have HB:=Lib.hid (qQ9 (qQ9 (qQ9 (qZ4 w0 (.cells #[.bool p,.string s] 23)) (.cells #[.bool q,.string t] 23)) (.cells #[.bool false,.string ⟨#[]⟩] 23)) (.cells #[.bool false,.string ⟨#[]⟩] 23))
 have HF:=Lib.hid hf1
 obtain ⟨N,hN⟩:∃ N,N=n.natAbs:=⟨_,rfl⟩
 obtain ⟨M,hM⟩:∃ M,M=m.natAbs:=⟨_,rfl⟩
 rw [← hN] at hs
 rw [← hM] at ht
 have HS:=Lib.hid hs
 have HT:=Lib.hid ht
 have HP:=Lib.hid hp
 have HQ:=Lib.hid hq
 have KN:Hid ((dig N).length≤250000001):=len_mag hs h1
 have KM:Hid ((dig M).length≤250000001):=len_mag ht h2
 have H1:Hid (s.size≤4294967296):=Nat.le_trans h1 (by decide)
 have H2:Hid (t.size≤4294967296):=Nat.le_trans h2 (by decide)
 have HM0:Hid (0<M):=by unfold Hid; omega
 have HR:Hid (N % M=0):=by
  rw [hN,hM]
  exact Nat.mod_eq_zero_of_dvd (Int.natAbs_dvd_natAbs.2 hd)
 have HV:Hid (sg (p != q) (N/M)=n/m):=by rw [hp,hq,hN,hM]; exact sg_exact hd
 clear hs ht h1 h2 hf0 hf1 hp hq hN hM hm hd
 go_enter Tryz.func257,Tryz.ntmps257
 go_wp2
 generalize (((w0.alloc (.cells #[.bool p,.string s] 23)).alloc (.cells #[.bool q,.string t] 23)).alloc (.cells #[.bool false,.string ⟨#[]⟩] 23)).alloc (.cells #[.bool false,.string ⟨#[]⟩] 23)=w1 at HB HF ⊢
 refine qZ2 11 (fun w'=>Below w0.heap.size w0 w'∧Frames w' [(w0.heap.size+1+1+1,#[.bool false,.string ⟨#[]⟩],23),(w0.heap.size+1+1,#[.bool false,.string ⟨#[]⟩],23),(w0.heap.size+1,#[.bool q,.string t],23),(w0.heap.size,#[.bool p,.string s],23)]) (fun w w'=>Below w.heap.size w w') (fun i w v=>match i with
   | 0=>v=.pointer (some ⟨w0.heap.size,1,none⟩)
   | 1=>v=.string s
   | 2=>∃ A c,v=.slice A (dig N).length c∧Words w (.slice A (dig N).length c) (dig N)
   | 3=>v=.pointer (some ⟨w0.heap.size+1,1,none⟩)
   | 4=>v=.string t
   | 5=>∃ A c,v=.slice A (dig M).length c∧Words w (.slice A (dig M).length c) (dig M)
   | 6=>∃ v1 v2,v=.tuple #[v1,v2]∧Words w v1 (dig (N/M))∧Words w v2 (dig (N % M))
   | 7=>∃ v1 v2,v=.tuple #[v1,v2]∧Words w v1 (dig (N/M))∧Words w v2 (dig (N % M))
   | 8=>∃ A l c,v=.slice A l c∧Words w (.slice A l c) (dig (N/M))
   | 9=>∃ A l c,v=.slice A l c∧Words w (.slice A l c) (dig (N % M))
   | _=>∃ A l c,v=.slice A l c∧Words w (.slice A l c) (dig (N/M))) (by kernel_rfl) (by kernel_rfl) (by kernel_rfl) ⟨HB.out.drew,HF.out.on (Below.drew (Below.refl _ _))⟩ (fun _ _=>(Below.refl _ _)) ?_ ⟨?_,?_,?_,?_,?_,?_,?_,?_,?_,?_,?_,trivial⟩ ?_
 · intro i w1 w2 v hC hC2 hE hV
   match i with
   | 0=>exact hV
   | 1=>exact hV
   | 2=>obtain ⟨A,c,e,h⟩:=hV; exact ⟨A,c,e,h.below hE⟩
   | 3=>exact hV
   | 4=>exact hV
   | 5=>obtain ⟨A,c,e,h⟩:=hV; exact ⟨A,c,e,h.below hE⟩
   | 6=>obtain ⟨a,b,e,h,k⟩:=hV; exact ⟨a,b,e,h.below hE,k.below hE⟩
   | 7=>obtain ⟨a,b,e,h,k⟩:=hV; exact ⟨a,b,e,h.below hE,k.below hE⟩
   | 8=>obtain ⟨A,l,c,e,h⟩:=hV; exact ⟨A,l,c,e,h.below hE⟩
   | 9=>obtain ⟨A,l,c,e,h⟩:=hV; exact ⟨A,l,c,e,h.below hE⟩
   | _+10=>obtain ⟨A,l,c,e,h⟩:=hV; exact ⟨A,l,c,e,h.below hE⟩
 · intro a' w' hag hC hd K hK
   have e2:a'.tmps.getD 2 undef=.pointer (some ⟨w0.heap.size,0,none⟩):=hag 2 rfl
   go_step
   exact hK _ _ hC ((Below.refl _ _)) rfl
 · intro a' w' hag hC hd K hK
   have e11:a'.tmps.getD 11 undef=.pointer (some ⟨w0.heap.size,1,none⟩):=hd.1
   have hc0:=(hC.2.get 3 rfl).cell 1 (.string s) rfl
   have HK:=Lib.hid (hK (.string s) _ hC (Below.refl _ _) rfl)
   clear hK hC
   go_step
   exact HK.out
 · intro a' w' hag hC hd K hK
   have e12:a'.tmps.getD 12 undef=.string s:=hd.1
   go_step
   refine (qW8 s N HS.out H1.out).mono ?_
   rintro e w2 ⟨A,c,rfl,h1,h2⟩
   exact hK _ _ ⟨hC.1.trans (h2.mono hC.1.size),hC.2.on h2⟩ h2 ⟨_,_,rfl,h1⟩
 · intro a' w' hag hC hd K hK
   have e3:a'.tmps.getD 3 undef=.pointer (some ⟨w0.heap.size+1,0,none⟩):=hag 3 rfl
   go_step
   exact hK _ _ hC ((Below.refl _ _)) rfl
 · intro a' w' hag hC hd K hK
   have e14:a'.tmps.getD 14 undef=.pointer (some ⟨w0.heap.size+1,1,none⟩):=hd.1
   have hc0:=(hC.2.get 2 rfl).cell 1 (.string t) rfl
   have HK:=Lib.hid (hK (.string t) _ hC (Below.refl _ _) rfl)
   clear hK hC
   go_step
   exact HK.out
 · intro a' w' hag hC hd K hK
   have e15:a'.tmps.getD 15 undef=.string t:=hd.1
   go_step
   refine (qW8 t M HT.out H2.out).mono ?_
   rintro e w2 ⟨A,c,rfl,h1,h2⟩
   exact hK _ _ ⟨hC.1.trans (h2.mono hC.1.size),hC.2.on h2⟩ h2 ⟨_,_,rfl,h1⟩
 · intro a' w' hag hC hd K hK
   obtain ⟨A13,c13,e13,h13⟩:=hd.1
   have e13:a'.tmps.getD 13 undef=.slice A13 (dig N).length c13:=e13
   obtain ⟨A16,c16,e16,h16⟩:=hd.2.1
   have e16:a'.tmps.getD 16 undef=.slice A16 (dig M).length c16:=e16
   go_step
   refine (divided_any h13 h16 HM0.out (Nat.le_trans KN.out (by decide))).mono ?_
   rintro e w2 ⟨v1,v2,rfl,h1,h2,h3⟩
   exact hK _ _ ⟨hC.1.trans (h3.mono hC.1.size),hC.2.on h3⟩ h3 ⟨_,_,rfl,h1,h2⟩
 · intro a' w' hag hC hd K hK
   obtain ⟨a17,b17,e17,h17,k17⟩:=hd.1
   have e17:a'.tmps.getD 17 undef=.tuple #[a17,b17]:=e17
   go_step
   exact hK _ _ hC (Below.refl _ _) ⟨_,_,rfl,h17,k17⟩
 · intro a' w' hag hC hd K hK
   obtain ⟨a10,b10,e10,h10,k10⟩:=hd.1
   have e10:a'.tmps.getD 10 undef=.tuple #[a10,b10]:=e10
   obtain ⟨A,l,c,rfl⟩:=h10.form
   go_step
   exact hK _ _ hC (Below.refl _ _) ⟨_,_,_,rfl,h10⟩
 · intro a' w' hag hC hd K hK
   obtain ⟨a10,b10,e10,h10,k10⟩:=hd.1
   have e10:a'.tmps.getD 10 undef=.tuple #[a10,b10]:=e10
   obtain ⟨A,l,c,rfl⟩:=k10.form
   go_step
   exact hK _ _ hC (Below.refl _ _) ⟨_,_,_,rfl,k10⟩
 · intro a' w' hag hC hd K hK
   obtain ⟨A18,l18,c18,e18,h18⟩:=hd.1
   have e18:a'.tmps.getD 18 undef=.slice A18 l18 c18:=e18
   go_step
   exact hK _ _ hC ((Below.refl _ _)) ⟨A18,l18,c18,rfl,h18⟩
 · intro u w' hC hall
   obtain ⟨u0,u1,u2,u3,u4,u5,u6,u7,u8,u9,u10,_⟩:=hall
   have u0:u 0=.pointer (some ⟨w0.heap.size,1,none⟩):=u0
   have u1:u 1=.string s:=u1
   have u3:u 3=.pointer (some ⟨w0.heap.size+1,1,none⟩):=u3
   have u4:u 4=.string t:=u4
   obtain ⟨A19,l19,c19,eu9,h19⟩:=u9
   have u9:u 9=.slice A19 l19 c19:=eu9
   obtain ⟨A18,l18,c18,eu10,h18⟩:=u10
   have u10:u 10=.slice A18 l18 c18:=eu10
   simp only [qZ7,List.take_succ_cons,List.take_zero,Act.put,List.setIfInBounds_toArray,List.set_cons_succ,List.set_cons_zero,Nat.zero_add,Nat.reduceAdd,u0,u1,u3,u4,u9,u10]
   clear u0 u1 u3 u4 u9 u10
   have HC:=Lib.hid hC
   have HA:=Lib.hid h18
   have HR1:=Lib.hid h19
   rw [HR.out,qJ4] at HR1
   have hl19:l19=0:=HR1.out.len.1
   subst hl19
   have hAl:l18≤4294967296:=by
    rw [HA.out.len.1]
    exact Nat.le_trans (qJ0 _ _ (Nat.div_le_self N M)) (Nat.le_trans KN.out (by decide))
   clear hC h18 h19
   have hc0:=(HC.out.2.get 3 rfl).cell 0 (.bool p) rfl
   have hc1:=(HC.out.2.get 2 rfl).cell 0 (.bool q) rfl
   obtain ⟨x,hx⟩:∃ x,x=(!p==q):=⟨_,rfl⟩
   have HXV:Hid (sg x (N/M)=n/m):=by rw [hx,show (!p==q)=(p != q) by cases p<;>cases q<;>rfl]; exact HV.out
   go_wp2_with fail
   rw [← hx]
   refine (qH3 x HA.out hAl).mono ?_
   rintro e w2 ⟨rfl,hb2⟩
   rw [qQ3,HXV.out]
   obtain ⟨a,ha⟩:∃ a,a=decide (n/m<0):=⟨_,rfl⟩
   obtain ⟨u',hu'⟩:∃ u,u=mag (n/m).natAbs:=⟨_,rfl⟩
   have hw:qZ9 (n/m)=.agg #[.bool a,.string u']:=by rw [ha,hu']; rfl
   rw [hw]
   have HAA:=Lib.hid ha
   have HUU:=Lib.hid hu'
   have HF2:=Lib.hid (HC.out.2.on hb2)
   have HB2:=Lib.hid (HC.out.1.trans (hb2.mono HC.out.1.size))
   have HR2:=Lib.hid (HR1.out.below hb2)
   clear hc0 hc1 hw ha hu' hb2 hx
   go_wp2_with fail
   refine (qH3 false HR2.out (by decide)).mono ?_
   rintro e w3 ⟨rfl,hb3⟩
   rw [show val []=0 from rfl,wholeV_sg0]
   have HF3:=Lib.hid (HF2.out.on hb3)
   have HB3:=Lib.hid (HB2.out.trans (hb3.mono HB2.out.size))
   clear hb3
   have HF4:=Lib.hid ((HF3.out.push w3.heap.size #[.bool a,.string u'] 23 rfl).push (w3.heap.size+1) #[.bool false,.string ⟨#[]⟩] 23 (by simp))
   have HB4:=Lib.hid (qQ9 (qQ9 HB3.out (.cells #[.bool a,.string u'] 23)) (.cells #[.bool false,.string ⟨#[]⟩] 23))
   have hp0:=(HF4.out.get 5 rfl).cell 0 (.bool p) rfl
   cases p
   all_goals
    go_wp2
    generalize (w3.alloc (.cells #[.bool a,.string u'] 23)).alloc (.cells #[.bool false,.string ⟨#[]⟩] 23)=w4 at HF4 HB4 hp0 ⊢
    have e0:=(HF4.out.get 1 rfl).cell 0 (.bool a) rfl
    have e1:=(HF4.out.get 1 rfl).cell 1 (.string u') rfl
    have f0:=(HF4.out.get 0 rfl).cell 0 (.bool false) rfl
    have f1:=(HF4.out.get 0 rfl).cell 1 (.string ⟨#[]⟩) rfl
    have g0:=(HF4.out.get 3 rfl).cell 0 (.bool false) rfl
    have g1:=(HF4.out.get 3 rfl).cell 1 (.string ⟨#[]⟩) rfl
    have i0:=(HF4.out.get 2 rfl).cell 0 (.bool false) rfl
    have i1:=(HF4.out.get 2 rfl).cell 1 (.string ⟨#[]⟩) rfl
    have fz1:=(HF4.out.get 3 rfl).frozen
    have fz2:=(HF4.out.get 2 rfl).frozen
    have hlt:=HB3.out.size
    have hne1:w3.heap.size≠w0.heap.size+1+1:=by have:=(HF3.out.get 0 rfl).lt; omega
    have hne2:w3.heap.size≠w0.heap.size+1+1+1:=by have:=(HF3.out.get 0 rfl).lt; omega
    have hne3:¬ w3.heap.size=w0.heap.size+1:=by have:=(HF3.out.get 0 rfl).lt; omega
    have hne5:¬ w3.heap.size+1=w0.heap.size+1+1:=by have:=(HF3.out.get 0 rfl).lt; omega
    have hne6:¬ w3.heap.size+1=w0.heap.size+1+1+1:=by have:=(HF3.out.get 0 rfl).lt; omega
    have hk1:=Lib.hid (((((HF4.out.get 3 rfl).set 0 (.bool a)).set 1 (.string u')).other (b:=w0.heap.size+1+1+1) (i:=0) (v:=.bool false) (by omega)).other (b:=w0.heap.size+1+1+1) (i:=1) (v:=.string ⟨#[]⟩) (by omega))
    have hk2:=Lib.hid (((((HF4.out.get 2 rfl).other (b:=w0.heap.size+1+1) (i:=0) (v:=.bool a) (by simp)).other (b:=w0.heap.size+1+1) (i:=1) (v:=.string u') (by simp)).set 0 (.bool false)).set 1 (.string ⟨#[]⟩))
    have hbb:=Lib.hid ((((HB4.out.setCell (p:=⟨w0.heap.size+1+1,0,none⟩) (by simp; omega) (.bool a)).setCell (p:=⟨w0.heap.size+1+1,1,none⟩) (by simp; omega) (.string u')).setCell (p:=⟨w0.heap.size+1+1+1,0,none⟩) (by simp; omega) (.bool false)).setCell (p:=⟨w0.heap.size+1+1+1,1,none⟩) (by simp; omega) (.string ⟨#[]⟩))
    go_region
    generalize (((w4.setCell ⟨w0.heap.size+1+1,0,none⟩ (.bool a)).setCell ⟨w0.heap.size+1+1,1,none⟩ (.string u')).setCell ⟨w0.heap.size+1+1+1,0,none⟩ (.bool false)).setCell ⟨w0.heap.size+1+1+1,1,none⟩ (.string ⟨#[]⟩)=w5 at hk1 hk2 hbb ⊢
    have m0:w5.drew.cell? ⟨w0.heap.size+1+1,0,none⟩=some (.bool a):=BoxAt.cell (w:=w5.drew) hk1.out 0 _ rfl
    have m1:w5.drew.cell? ⟨w0.heap.size+1+1,1,none⟩=some (.string u'):=BoxAt.cell (w:=w5.drew) hk1.out 1 _ rfl
    have m2:w5.drew.cell? ⟨w0.heap.size+1+1+1,0,none⟩=some (.bool false):=BoxAt.cell (w:=w5.drew) hk2.out 0 _ rfl
    have m3:w5.drew.cell? ⟨w0.heap.size+1+1+1,1,none⟩=some (.string ⟨#[]⟩):=BoxAt.cell (w:=w5.drew) hk2.out 1 _ rfl
    clear e0 e1 f0 f1 g0 g1 i0 i1 fz1 fz2 hp0
    go_wp2
    exact bodyPost_ret (v:=.tuple #[.agg #[.bool a,.string u'],.agg #[.bool false,.string ⟨#[]⟩]]) (by simp [results,Tryz.results257,go_sem,m0,m1,m2,m3]) rfl ⟨_,_,rfl,HAA,HUU,hbb.out.drew⟩
end
section
open Go.RowKit
def R3FitsPost (s t:ByteArray) (w:World) (e:Ending) (w':World):Prop:=∃ r,e=.returned (.bool r)∧(r=true↔s.size≤1024∧t.size≤1024)∧Below w.heap.size w w'
set_option maxRecDepth 100000 in
theorem r3fits_any {w:World} (b c:Bool) (s t:ByteArray) :
  Calls Tryz.prog 109 #[.agg #[.bool b,.string s,.bool c,.string t]] w (R3FitsPost s t w):=by
 have HB:=Lib.hid (qZ4 w (.cells #[.bool b,.string s,.bool c,.string t] 25))
 by_cases h1:s.size≤1024
 · have h1i:(s.size:Int)≤1024:=by omega
   by_cases h2:t.size≤1024
   · have h2i:(t.size:Int)≤1024:=by omega
     go_enter Tryz.func109,Tryz.ntmps109
     go_wp2
     go_ret
     exact ⟨true,rfl,⟨fun _=>⟨h1,h2⟩,fun _=>rfl⟩,HB.out⟩
   · have h2i:(1024:Int)<(t.size:Int):=by omega
     have h2d:decide ((t.size:Int)≤1024)=false:=decide_eq_false (by omega)
     go_enter Tryz.func109,Tryz.ntmps109
     go_wp2
     go_ret
     exact ⟨false,rfl,⟨fun h=>Bool.noConfusion h,fun h=>absurd h.2 h2⟩,HB.out⟩
 · have h1i:(1024:Int)<(s.size:Int):=by omega
   go_enter Tryz.func109,Tryz.ntmps109
   go_wp2
   go_ret
   exact ⟨false,rfl,⟨fun h=>Bool.noConfusion h,fun h=>absurd h.1 h1⟩,HB.out⟩
theorem divInt_parts (n m:Int) (hm:m≠0) (g:Int) (hg:g=if m<0 then -((Nat.gcd n.natAbs m.natAbs:Nat):Int) else ((Nat.gcd n.natAbs m.natAbs:Nat):Int)) :
  g≠0∧g ∣ n∧g ∣ m∧(Rat.divInt n m).num=n/g∧((Rat.divInt n m).den:Int)=m/g:=by
 have hG:0<Nat.gcd n.natAbs m.natAbs:=Nat.gcd_pos_of_pos_right _ (by omega)
 obtain ⟨G,hGG⟩:∃ G:Nat,G=Nat.gcd n.natAbs m.natAbs:=⟨_,rfl⟩
 rw [← hGG] at hg hG
 have d1:(G:Int) ∣ n:=by rw [hGG]; exact Int.ofNat_dvd_left.2 (Nat.gcd_dvd_left _ _)
 have d2:(G:Int) ∣ m:=by rw [hGG]; exact Int.ofNat_dvd_left.2 (Nat.gcd_dvd_right _ _)
 have e1:Int.gcd m n=G:=by rw [hGG,Int.gcd_comm]; rfl
 have h1:=Rat.num_divInt n m
 have h2:=Rat.den_divInt n m
 rw [e1] at h1 h2
 rw [if_neg hm] at h2
 by_cases h:m<0
 · rw [if_pos h] at hg
   subst hg
   refine ⟨by omega,Int.neg_dvd.2 d1,Int.neg_dvd.2 d2,?_,?_⟩
   · rw [h1,Int.sign_eq_neg_one_of_neg h,Int.ediv_neg,show (-1:Int)*n = -n by omega,Int.neg_ediv_of_dvd d1]
   · rw [h2,Int.natCast_ediv,Int.ediv_neg,show ((m.natAbs:Nat):Int) = -m by omega,Int.neg_ediv_of_dvd d2]
 · rw [if_neg h] at hg
   subst hg
   refine ⟨by omega,d1,d2,?_,?_⟩
   · rw [h1,Int.sign_eq_one_of_pos (by omega),Int.one_mul]
   · rw [h2,Int.natCast_ediv,show ((m.natAbs:Nat):Int)=m by omega]
end
section
open Go.RowKit
theorem Frames.set_head {w:World} {g:Nat} {cs:Array Value} {T:TypeId} {l:List (Nat × Array Value × TypeId)} (h:Frames w ((g,cs,T)::l)) (hl:∀ x∈l,x.1≠g) (a u:Value) :
  Frames ((w.setCell ⟨g,0,none⟩ a).setCell ⟨g,1,none⟩ u) ((g,(cs.setIfInBounds 0 a).setIfInBounds 1 u,T)::l):=by
 intro x hx
 rcases List.mem_cons.1 hx with rfl | hx2
 · exact ((h (g,cs,T) (List.mem_cons_self ..)).set 0 a).set 1 u
 · exact ((h x (List.mem_cons_of_mem _ hx2)).other (hl x hx2)).other (hl x hx2)
set_option maxHeartbeats 6400000 in
set_option maxRecDepth 100000 in
theorem r3of_any {w0:World} (p q:Bool) (s t:ByteArray) (n m:Int) (hp:p=decide (n<0)) (hq:q=decide (m<0)) (hs:s=mag n.natAbs) (ht:t=mag m.natAbs) (h1:s.size≤1000000000) (h2:t.size≤1000000000) (hm:m≠0) :
  Calls Tryz.prog 258 #[.agg #[.bool p,.string s],.agg #[.bool q,.string t]] w0 fun e w'=>e=.returned (fracV (Rat.divInt n m))∧Below w0.heap.size w0 w':=by
 have hf1:=(((Frames.nil w0).push w0.heap.size #[.bool p,.string s] 23 rfl).push (w0.heap.size+1) #[.bool q,.string t] 23 (by simp)).push (w0.heap.size+1+1) #[.bool false,.string ⟨#[]⟩,.bool false,.string ⟨#[]⟩] 25 (by simp)
 have HB:=Lib.hid (qQ9 (qQ9 (qZ4 w0 (.cells #[.bool p,.string s] 23)) (.cells #[.bool q,.string t] 23)) (.cells #[.bool false,.string ⟨#[]⟩,.bool false,.string ⟨#[]⟩] 25))
 have HF:=Lib.hid hf1
 have HP:=Lib.hid hp
 have HQ:=Lib.hid hq
 have HS:=Lib.hid hs
 have HT:=Lib.hid ht
 have H1:=Lib.hid h1
 have H2:=Lib.hid h2
 have HM:=Lib.hid hm
 obtain ⟨g,hg⟩:∃ g:Int,g=if m<0 then -((Nat.gcd n.natAbs m.natAbs:Nat):Int) else ((Nat.gcd n.natAbs m.natAbs:Nat):Int):=⟨_,rfl⟩
 have HD:=Lib.hid (divInt_parts n m hm g hg)
 have HG:=Lib.hid hg
 have hgsz:(mag g.natAbs).size≤1000000000:=by
  have e:g.natAbs=Nat.gcd n.natAbs m.natAbs:=by
   rw [hg]
   split
   · rw [Int.natAbs_neg,Int.natAbs_natCast]
   · rw [Int.natAbs_natCast]
  rw [e]
  exact mag_mono (Nat.gcd_le_right _ (by omega)) (by rw [← ht]; exact h2)
 have HGS:=Lib.hid hgsz
 clear hp hq hs ht h1 h2 hm hf1 hg hgsz
 have hc0:=(HF.out.get 2 rfl).cell 0 (.bool p) rfl
 go_enter Tryz.func258,Tryz.ntmps258
 clear hc0
 go_wp2_with fail
 refine (rgcd_any p q s t n.natAbs m.natAbs HS.out HT.out H1.out H2.out).mono ?_
 rintro e w1 ⟨gs,rfl,hgs,hb⟩
 have HGG:=Lib.hid hgs
 have HF1:=Lib.hid ((HF.out.on hb).push w1.heap.size #[.bool false,.string gs] 23 rfl)
 have HB1:=Lib.hid (qQ9 (HB.out.trans (hb.mono HB.out.size)) (.cells #[.bool false,.string gs] 23))
 have hsz1:w0.heap.size+1+1<w1.heap.size:=((HF.out.on hb).get 0 rfl).lt
 have hc2:=(HF1.out.get 2 rfl).cell 0 (.bool q) rfl
 have hc3:=(HF1.out.get 2 rfl).cell 1 (.string t) rfl
 clear hb hgs
 go_wp2_with fail
 refine (rsign_any q t m HQ.out HT.out).mono ?_
 rintro e w2 ⟨rfl,hb⟩
 have HF2:=Lib.hid (HF1.out.on hb)
 have HB2:=Lib.hid (HB1.out.trans (hb.mono HB1.out.size))
 clear hb hc2 hc3
 obtain ⟨sg0,hsg⟩:∃ x,x=m.sign:=⟨_,rfl⟩
 rw [← hsg]
 have HSG:=Lib.hid hsg
 clear hsg
 have hn1:¬ w1.heap.size=w0.heap.size:=by omega
 have hn2:¬ w1.heap.size=w0.heap.size+1:=by omega
 have hn3:¬ w1.heap.size=w0.heap.size+1+1:=by omega
 have key:∀ (w3:World) (ga:Bool) (gu:ByteArray),Hid (ga=decide (g<0))→Hid (gu=mag g.natAbs)→Hid (Frames w3 [(w1.heap.size,#[.bool ga,.string gu],23),(w0.heap.size+1+1,#[.bool false,.string ⟨#[]⟩,.bool false,.string ⟨#[]⟩],25),(w0.heap.size+1,#[.bool q,.string t],23),(w0.heap.size,#[.bool p,.string s],23)])→True:=fun _ _ _ _ _ _=>trivial
 clear key
 by_cases hneg:sg0<0
 · have HMN:Hid (m<0):=by have:=HSG.out; rw [this] at hneg; exact Int.sign_neg_iff.1 hneg
   have hd0:=(HF2.out.get 0 rfl).cell 0 (.bool false) rfl
   have hd1:=(HF2.out.get 0 rfl).cell 1 (.string gs) rfl
   go_wp2_with fail
   refine (rneg_any false gs ((Nat.gcd n.natAbs m.natAbs:Nat):Int) (by simp) (by rw [Int.natAbs_natCast]; exact HGG.out)).mono ?_
   rintro e w3 ⟨ga,gu,rfl,hga,hgu,hb⟩
   have HGA:Hid (ga=decide (g<0)):=by rw [Hid,HG.out,if_pos HMN.out]; exact hga.out
   have HGU:Hid (gu=mag g.natAbs):=by rw [Hid,HG.out,if_pos HMN.out]; exact hgu.out
   have hf3:=HF2.out.on hb
   have hx0:=(hf3.get 3 rfl).cell 0 (.bool p) rfl
   have hx1:=(hf3.get 3 rfl).cell 1 (.string s) rfl
   have hx2:=(hf3.get 0 rfl).cell 0 (.bool false) rfl
   have hx3:=(hf3.get 0 rfl).cell 1 (.string gs) rfl
   have hfz:=(hf3.get 0 rfl).frozen
   have HF3:Hid (Frames ((w3.setCell ⟨w1.heap.size,0,none⟩ (.bool ga)).setCell ⟨w1.heap.size,1,none⟩ (.string gu)) [(w1.heap.size,#[.bool ga,.string gu],23),(w0.heap.size+1+1,#[.bool false,.string ⟨#[]⟩,.bool false,.string ⟨#[]⟩],25),(w0.heap.size+1,#[.bool q,.string t],23),(w0.heap.size,#[.bool p,.string s],23)]):=hf3.set_head (fun x hx=>by simp at hx; rcases hx with rfl | rfl | rfl<;>simp<;>omega) (.bool ga) (.string gu)
   have HB3:=Lib.hid (zJ4 (HB2.out.trans (hb.mono HB2.out.size)) (show w0.heap.size≤w1.heap.size by omega) (.bool ga) (.string gu))
   clear hb hd0 hd1 hga hgu hf3
   go_wp2_with fail
   generalize (w3.setCell ⟨w1.heap.size,0,none⟩ (.bool ga)).setCell ⟨w1.heap.size,1,none⟩ (.string gu)=w4 at HF3 HB3 ⊢
   clear hx0 hx1 hx2 hx3 hfz
   refine (zZ6 p ga s gu n g HP.out HGA.out HS.out HGU.out H1.out (by rw [HGU.out]; exact HGS.out) HD.out.1 HD.out.2.1).mono ?_
   rintro e w5 ⟨a1,u1,rfl,ha1,hu1,hb⟩
   have HF5:=Lib.hid (((HF3.out.on hb).push w5.heap.size #[.bool a1,.string u1] 23 rfl).push (w5.heap.size+1) #[.bool false,.string ⟨#[]⟩] 23 (by simp))
   have HB5:=Lib.hid (qQ9 (qQ9 (HB3.out.trans (hb.mono HB3.out.size)) (.cells #[.bool a1,.string u1] 23)) (.cells #[.bool false,.string ⟨#[]⟩] 23))
   have hx0:=(HF5.out.get 4 rfl).cell 0 (.bool q) rfl
   have hx1:=(HF5.out.get 4 rfl).cell 1 (.string t) rfl
   have hx2:=(HF5.out.get 2 rfl).cell 0 (.bool ga) rfl
   have hx3:=(HF5.out.get 2 rfl).cell 1 (.string gu) rfl
   clear hb
   go_wp2_with fail
   refine (zZ6 q ga t gu m g HQ.out HGA.out HT.out HGU.out H2.out (by rw [HGU.out]; exact HGS.out) HD.out.1 HD.out.2.2.1).mono ?_
   rintro e w6 ⟨a2,u2,rfl,ha2,hu2,hb⟩
   have HF6:=Lib.hid (((HF5.out.on hb).push w6.heap.size #[.bool a2,.string u2] 23 rfl).push (w6.heap.size+1) #[.bool false,.string ⟨#[]⟩] 23 (by simp))
   have HB6:=Lib.hid (qQ9 (qQ9 (HB5.out.trans (hb.mono HB5.out.size)) (.cells #[.bool a2,.string u2] 23)) (.cells #[.bool false,.string ⟨#[]⟩] 23))
   clear hb hx0 hx1 hx2 hx3
   have ha2f:a2=false:=by
    rw [ha2.out,← HD.out.2.2.2.2]
    simp
   subst ha2f
   have HVAL:Hid ((Value.agg #[.bool a1,.string u1,.bool false,.string u2])=fracV (Rat.divInt n m)):=by
    rw [Hid,fracV,HD.out.2.2.2.1,← ha1.out,← hu1.out]
    congr 4
    have h:=hu2.out
    rw [← HD.out.2.2.2.2,Int.natAbs_natCast] at h
    rw [h]
   have hy0:=(HF6.out.get 3 rfl).cell 0 (.bool a1) rfl
   have hy1:=(HF6.out.get 3 rfl).cell 1 (.string u1) rfl
   have hy2:=(HF6.out.get 1 rfl).cell 0 (.bool false) rfl
   have hy3:=(HF6.out.get 1 rfl).cell 1 (.string u2) rfl
   have hp0:=(HF6.out.get 5 rfl).cell 0 _ rfl
   have hp1:=(HF6.out.get 5 rfl).cell 1 _ rfl
   have hp2:=(HF6.out.get 5 rfl).cell 2 _ rfl
   have hp3:=(HF6.out.get 5 rfl).cell 3 _ rfl
   have hf:=(HF6.out.get 5 rfl).frozen
   go_wp2
   have hk:=(HF6.out.get 5 rfl).put4 (.bool a1) (.string u1) (.bool false) (.string u2)
   have k0:=hk.cell 0 _ rfl
   have k1:=hk.cell 1 _ rfl
   have k2:=hk.cell 2 _ rfl
   have k3:=hk.cell 3 _ rfl
   exact bodyPost_ret (v:=.agg #[.bool a1,.string u1,.bool false,.string u2]) (by simp [results,Tryz.results258,go_sem,k0,k1,k2,k3]) rfl ⟨by rw [HVAL.out],below_put4 HB6.out (by omega) _ _ _ _⟩
 · have hneg2:¬ sg0<0:=hneg
   have HMN:Hid (¬ m<0):=fun h=>hneg (by rw [HSG.out]; exact Int.sign_neg_iff.2 h)
   obtain ⟨ga,hga⟩:∃ ga,ga=false:=⟨_,rfl⟩
   have HGA:Hid (ga=decide (g<0)):=by rw [Hid,HG.out,if_neg HMN.out,hga]; simp
   have HGU:Hid (gs=mag g.natAbs):=by rw [Hid,HG.out,if_neg HMN.out,Int.natAbs_natCast]; exact HGG.out
   rw [← hga] at HF2
   obtain ⟨gu,hgu⟩:∃ gu,gu=gs:=⟨_,rfl⟩
   rw [← hgu] at HF2 HGU
   have hx0:=(HF2.out.get 3 rfl).cell 0 (.bool p) rfl
   have hx1:=(HF2.out.get 3 rfl).cell 1 (.string s) rfl
   have hx2:=(HF2.out.get 0 rfl).cell 0 (.bool ga) rfl
   have hx3:=(HF2.out.get 0 rfl).cell 1 (.string gu) rfl
   have HF3:=HF2
   have HB3:=HB2
   clear hga hgu
   go_wp2_with fail
   obtain ⟨w4,hw4⟩:∃ w4,w4=w2:=⟨_,rfl⟩
   rw [← hw4] at HF3 HB3 ⊢
   clear hx0 hx1 hx2 hx3 hw4
   refine (zZ6 p ga s gu n g HP.out HGA.out HS.out HGU.out H1.out (by rw [HGU.out]; exact HGS.out) HD.out.1 HD.out.2.1).mono ?_
   rintro e w5 ⟨a1,u1,rfl,ha1,hu1,hb⟩
   have HF5:=Lib.hid (((HF3.out.on hb).push w5.heap.size #[.bool a1,.string u1] 23 rfl).push (w5.heap.size+1) #[.bool false,.string ⟨#[]⟩] 23 (by simp))
   have HB5:=Lib.hid (qQ9 (qQ9 (HB3.out.trans (hb.mono HB3.out.size)) (.cells #[.bool a1,.string u1] 23)) (.cells #[.bool false,.string ⟨#[]⟩] 23))
   have hx0:=(HF5.out.get 4 rfl).cell 0 (.bool q) rfl
   have hx1:=(HF5.out.get 4 rfl).cell 1 (.string t) rfl
   have hx2:=(HF5.out.get 2 rfl).cell 0 (.bool ga) rfl
   have hx3:=(HF5.out.get 2 rfl).cell 1 (.string gu) rfl
   clear hb
   go_wp2_with fail
   refine (zZ6 q ga t gu m g HQ.out HGA.out HT.out HGU.out H2.out (by rw [HGU.out]; exact HGS.out) HD.out.1 HD.out.2.2.1).mono ?_
   rintro e w6 ⟨a2,u2,rfl,ha2,hu2,hb⟩
   have HF6:=Lib.hid (((HF5.out.on hb).push w6.heap.size #[.bool a2,.string u2] 23 rfl).push (w6.heap.size+1) #[.bool false,.string ⟨#[]⟩] 23 (by simp))
   have HB6:=Lib.hid (qQ9 (qQ9 (HB5.out.trans (hb.mono HB5.out.size)) (.cells #[.bool a2,.string u2] 23)) (.cells #[.bool false,.string ⟨#[]⟩] 23))
   clear hb hx0 hx1 hx2 hx3
   have ha2f:a2=false:=by
    rw [ha2.out,← HD.out.2.2.2.2]
    simp
   subst ha2f
   have HVAL:Hid ((Value.agg #[.bool a1,.string u1,.bool false,.string u2])=fracV (Rat.divInt n m)):=by
    rw [Hid,fracV,HD.out.2.2.2.1,← ha1.out,← hu1.out]
    congr 4
    have h:=hu2.out
    rw [← HD.out.2.2.2.2,Int.natAbs_natCast] at h
    rw [h]
   have hy0:=(HF6.out.get 3 rfl).cell 0 (.bool a1) rfl
   have hy1:=(HF6.out.get 3 rfl).cell 1 (.string u1) rfl
   have hy2:=(HF6.out.get 1 rfl).cell 0 (.bool false) rfl
   have hy3:=(HF6.out.get 1 rfl).cell 1 (.string u2) rfl
   have hp0:=(HF6.out.get 5 rfl).cell 0 _ rfl
   have hp1:=(HF6.out.get 5 rfl).cell 1 _ rfl
   have hp2:=(HF6.out.get 5 rfl).cell 2 _ rfl
   have hp3:=(HF6.out.get 5 rfl).cell 3 _ rfl
   have hf:=(HF6.out.get 5 rfl).frozen
   go_wp2
   have hk:=(HF6.out.get 5 rfl).put4 (.bool a1) (.string u1) (.bool false) (.string u2)
   have k0:=hk.cell 0 _ rfl
   have k1:=hk.cell 1 _ rfl
   have k2:=hk.cell 2 _ rfl
   have k3:=hk.cell 3 _ rfl
   exact bodyPost_ret (v:=.agg #[.bool a1,.string u1,.bool false,.string u2]) (by simp [results,Tryz.results258,go_sem,k0,k1,k2,k3]) rfl ⟨by rw [HVAL.out],below_put4 HB6.out (by omega) _ _ _ _⟩
end
end Go.Proofs.YtbepimnlleilfaaGreat
end
