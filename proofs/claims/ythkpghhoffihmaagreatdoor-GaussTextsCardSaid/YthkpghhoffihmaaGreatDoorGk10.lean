/- RefG, Arh, Frm, RefH, RefI, RefJ, Fra, RefB, EvB, EqA, Rs3, ExM. -/
import Derived.Test.YthkpghhoffihmaaGreatDoorGk9
set_option linter.unnecessarySimpa false
set_option linter.unusedVariables false
set_option linter.unusedSimpArgs false
section
namespace Go.Proofs.YthkpghhoffihmaaGreatDoor
open Go.RowKit
theorem Div.first2 (us0:List Nat) (A V k la n:Nat) (hA:A<4294967296^la) (hu:val us0=A*2^k) (hl:us0.length=la+2) (hn:0<n) (hnl:n≤la) (hk:k≤31) (hV:4294967296^(n-1)*2147483648≤V) :
  Div us0 us0 (List.replicate (la+2-n) 0) V (la+2-n) (la+2) n:=by
 refine ⟨hl,by simp,rfl,?_,by rw [List.drop_of_length_le (by simp)]; simp [val]⟩
 have h1:=val_take_drop us0 (la+2-n) (by omega)
 have h2:4294967296^(la+2-n)*val (us0.drop (la+2-n))<4294967296^(la+1):=by
  have h3:A*2^k<4294967296^la*2^32:=by
   have h4:2^k≤2^32:=Nat.pow_le_pow_right (by decide) (by omega)
   exact Nat.mul_lt_mul_of_lt_of_le hA h4 (Nat.two_pow_pos _)
  rw [show (2:Nat)^32=4294967296 from rfl,← Nat.pow_succ] at h3
  omega
 have h5:4294967296^(la+1)=4294967296^(la+2-n)*4294967296^(n-1):=by rw [← Nat.pow_add]; congr 1; omega
 rw [h5] at h2
 have h6:=Nat.lt_of_mul_lt_mul_left h2
 have h7:4294967296^(n-1)*1≤4294967296^(n-1)*2147483648:=Nat.mul_le_mul_left _ (by decide)
 omega
theorem Div.last2 {us0 us qs:List Nat} {b k L n a:Nat} (d:Div us0 us qs (b*2^k) 0 L n) (hu:val us0=a*2^k):val qs=a/b∧val us/2^k=a % b:=by
 have h1:=d.eq
 have h2:=d.rest
 simp only [List.drop_zero] at h1 h2
 rw [hu,← Nat.mul_assoc] at h1
 have hb:0<b:=by
  rcases Nat.eq_zero_or_pos b with h | h
  · subst h; simp at h2
  · exact h
 have hP:=Nat.two_pow_pos k
 obtain ⟨r,hr⟩:∃ r,val us=r*2^k:=by
  refine ⟨a-val qs*b,?_⟩
  rw [Nat.sub_mul]
  omega
 rw [hr] at h1 h2 ⊢
 have h3:r<b:=Nat.lt_of_mul_lt_mul_right h2
 have h4:val qs*b+r=a:=by
  rw [← Nat.add_mul] at h1
  exact Nat.eq_of_mul_eq_mul_right hP h1
 rw [Nat.mul_div_cancel _ hP]
 have h5:a=b*val qs+r:=by rw [Nat.mul_comm]; exact h4.symm
 rw [h5,Nat.mul_add_div hb,Nat.div_eq_of_lt h3,Nat.mul_add_mod,Nat.mod_eq_of_lt h3]
 exact ⟨by omega,rfl⟩
theorem guess_first {U V top v1 P:Nat} (h1:U<(top+1)*P) (h2:v1*P≤V) (h3:0<v1) (hV:0<V) (hU:U<4294967296*V):U<(min (top/v1) 4294967295+1)*V:=by
 have h4:=knu_le U V top v1 P h1 h2 h3 hV
 rcases Nat.le_total (top/v1) 4294967295 with h | h
 · rw [Nat.min_eq_left h]; exact h4
 · rw [Nat.min_eq_right h]; exact hU
theorem take_end {ms:List Nat} {m q V U c:Nat} (hw:Wf ms) (hl:ms.length=m) (hv:val ms+q*V=U+4294967296^m*c) (hle:q*V≤U) (hlt:U<(q+1)*V):val ms+q*V=U∧val ms<V:=by
 have h1:=val_lt ms hw
 rw [hl] at h1
 rcases Nat.eq_zero_or_pos c with h | h
 · subst h
   rw [Nat.add_mul] at hlt
   omega
 · exfalso
   have:4294967296^m*1≤4294967296^m*c:=Nat.mul_le_mul_left _ h
   omega
set_option maxRecDepth 100000 in
theorem divided_small {A B:Option Addr} {la ca lb cb a b:Nat} {w:World} (hx:Words w (.slice A la ca) (dig a)) (hy:Words w (.slice B lb cb) (dig b)) (hlt:a<b) :
  Calls Tryz.prog 331 #[.slice A la ca,.slice B lb cb] w (DivPost w a b):=by
 have HX:=Lib.hid hx
 have HY:=Lib.hid hy
 have HL:=Lib.hid hlt
 clear hx hy hlt
 go_enter Tryz.func331,Tryz.ntmps331
 go_wp2_with (go_at_call 278; refine (runder_any HX.out HY.out).mono ?_; rw [cmpN_lt HL.out]; rintro e w' ⟨rfl,k,rfl⟩)
 go_ret2
 refine ⟨.slice none 0 0,.slice A la ca,rfl,?_,?_,Below.drewN_ (Below.refl _ _) k⟩
 · rw [Nat.div_eq_of_lt HL.out,dig_zero]; exact Words.nil _
 · rw [Nat.mod_eq_of_lt HL.out]; exact HX.out.below (Below.drewN_ (Below.refl _ _) k)
theorem norm_bits {b n t k Lb:Nat} (h:Bits b Lb) (hn:(dig b).length=n) (h0:0<n) (ht:(dig b).getD (n-1) 0=t) (hk:k=32*n-Lb):k≤31∧2147483648≤t*2^k∧t*2^k<4294967296:=by
 obtain ⟨m,rfl⟩:∃ m,n=m+1:=⟨n-1,by omega⟩
 rw [Nat.add_sub_cancel,dig_getD] at ht
 have hm:=dig_lt b
 rw [hn,Nat.pow_succ] at hm
 have h3:b/4294967296^m<4294967296:=Nat.div_lt_of_lt_mul hm
 rw [Nat.mod_eq_of_lt h3] at ht
 have hbp:0<b:=by
  rcases Nat.eq_zero_or_pos b with e | e
  · rw [e,dig_zero] at hn; simp at hn
  · exact e
 have hlow:=dig_len_ge b hbp
 rw [hn,Nat.add_sub_cancel] at hlow
 have hP:0<4294967296^m:=Nat.pow_pos (by decide)
 have hL1:Lb≤32*(m+1):=h.le (by rw [← p32,Nat.pow_succ]; exact hm)
 have hL2:32*m<Lb:=by
  have h4:=h.1
  rw [p32] at hlow
  exact (Nat.pow_lt_pow_iff_right (by decide:1<2)).1 (Nat.lt_of_le_of_lt hlow h4)
 obtain ⟨e,he⟩:∃ e,Lb=32*m+e:=⟨Lb-32*m,by omega⟩
 have hk2:k+e=32:=by omega
 have h5:t<2^e:=by
  have h4:=h.1
  rw [he,Nat.pow_add,← p32] at h4
  rw [← ht]
  exact Nat.div_lt_of_lt_mul h4
 have h6:2^(e-1)≤t:=by
  have h4:=h.2 (by omega)
  rw [he,show 32*m+e-1=32*m+(e-1) by omega,Nat.pow_add,← p32] at h4
  rw [← ht]
  rw [Nat.mul_comm] at h4
  exact (Nat.le_div_iff_mul_le hP).2 h4
 have hK:=Nat.two_pow_pos k
 have e1:2^e*2^k=4294967296:=by rw [← Nat.pow_add,show e+k=32 by omega]
 have e2:2^(e-1)*2^k=2147483648:=by rw [← Nat.pow_add,show e-1+k=31 by omega]
 refine ⟨by omega,?_,?_⟩
 · rw [← e2]; exact Nat.mul_le_mul_right _ h6
 · rw [← e1]; exact Nat.mul_lt_mul_of_pos_right h5 hK
theorem small_dig {A:Option Addr} {la ca a:Nat} {w:World} (hx:Words w (.slice A la ca) (dig a)) (d:Nat) (hd0:0<d) (hd:d<4294967296) :
  Calls Tryz.prog 250 #[.slice A la ca,.int .u64 (d:Int)] w fun e w'=>∃ v r,e=.returned (.tuple #[v,.int .u64 ((r:Nat):Int)])∧Hid (r=a % d)∧r<d∧Words w' v (dig (a/d))∧Below w.heap.size w w':=by
 refine (small_any hx (by rw [hx.len.1]; exact hx.2.1) d hd0 hd).mono fun e w' ⟨v,h1,h2,h3⟩=>?_
 rw [val_dig] at h1 h2
 exact ⟨v,_,h1,rfl,Nat.mod_lt _ hd0,h2,h3⟩
set_option maxRecDepth 100000 in
theorem divided_word {A B:Option Addr} {la ca cb a b:Nat} {w:World} (hx:Words w (.slice A la ca) (dig a)) (hy:Words w (.slice B 1 cb) (dig b)) (hge:b≤a) :
  Calls Tryz.prog 331 #[.slice A la ca,.slice B 1 cb] w (DivPost w a b):=by
 have hl:=hy.len.1
 have hb0:0<b:=by
  rcases Nat.eq_zero_or_pos b with h | h
  · rw [h,dig_zero] at hl; simp at hl
  · exact h
 have hbd:(dig b).getD 0 0=b:=by
  have h1:=val_dig b
  match hd:dig b,hl with
  | [x],_=>rw [hd] at h1; simp [val] at h1; simpa using h1
 have hblt:b<4294967296:=by have:=dig_lt b; rw [← hl] at this; omega
 obtain ⟨bb,o,rfl,hc⟩:=hy.open_ (by omega)
 have hc:w.cell? ⟨bb,o,none⟩=some (.int .u32 (b:Int)):=by have:=hc 0 (by omega); rw [hbd] at this; exact this
 have hsz:=hx.2.1
 rw [← hx.len.1] at hsz
 have HX:=Lib.hid hx
 have HY:=Lib.hid hy
 have HC:=Lib.hid (cmpN_ge hge)
 obtain ⟨r,hr⟩:∃ r,r=cmpN a b:=⟨_,rfl⟩
 have HR:=Lib.hid hr
 have hr0:0≤r:=by rw [hr]; exact HC.out
 have hb1:0<b:=hb0
 clear hx hy hge hl hbd hr HC
 go_enter Tryz.func331,Tryz.ntmps331
 go_wp2_with (first
  | (go_at_call 278; refine (runder_any HX.out HY.out).mono ?_; rw [← HR.out]; rintro e w' ⟨rfl,k,rfl⟩)
  | (go_at_call 250; refine (small_dig (HX.out.below (Below.drewN_ (Below.refl _ _) _)) b hb1 hblt).mono ?_; rintro e w' ⟨v,r2,rfl,hr2,hr2b,hv,hbel⟩))
 have hrl:r2<4294967296:=by omega
 have HV:=Lib.hid hv
 have HB:=Lib.hid hbel
 clear hv hbel
 go_wp2_with (go_at_call 245; refine (rcut_any (words_one _ r2 _ hrl rfl)).mono ?_; rintro e w2 ⟨rfl,rfl⟩)
 go_ret2
 refine ⟨v,.slice (some ⟨w'.heap.size,0,none⟩) (trim [r2]).length 1,rfl,HV.out.below ((Below.refl _ _).alloc (Nat.le_refl _) _),?_,(((Below.drewN_ (Below.refl _ _) _).trans (HB.out.mono (by simp))).alloc (by have:=HB.out.size; simpa using this) _)⟩
 have h1:=(words_one w' r2 _ hrl rfl).trim_
 rw [← hr2.out,← dig_of [r2] r2 (Wf.cons hrl Wf.nil) (by simp [val])]
 exact h1
set_option maxHeartbeats 6400000 in
set_option maxRecDepth 100000 in
theorem divided_long {A B:Option Addr} {la ca lb cb a b:Nat} {w:World} (hx:Words w (.slice A la ca) (dig a)) (hy:Words w (.slice B lb cb) (dig b)) (hge:b≤a) (hl2:2≤lb) (hla:la≤4294967296) :
  Calls Tryz.prog 331 #[.slice A la ca,.slice B lb cb] w (DivPost w a b):=by
 have hla0:=hx.len.1
 have hlb:=hy.len.1
 have hlab:lb≤la:=by rw [hla0,hlb]; exact dig_len_mono _ _ hge
 obtain ⟨t,ht⟩:∃ t,t=(dig b).getD (lb-1) 0:=⟨_,rfl⟩
 have ht32:t<4294967296:=by rw [ht]; exact (Wf_dig b).getD _
 have HX:=Lib.hid hx
 have HY:=Lib.hid hy
 have HLB:=Lib.hid hlb
 have HLA:=Lib.hid hla0
 have HT:=Lib.hid ht
 obtain ⟨r,hr⟩:∃ r,r=cmpN a b:=⟨_,rfl⟩
 have hr0:0≤r:=by rw [hr]; exact cmpN_ge hge
 have HR:=Lib.hid hr
 have HGE:=Lib.hid hge
 have hlb1:((lb:Int)==1)=false:=by rw [beq_eq_false_iff_ne]; omega
 clear hx hy hge hlb hla0 ht hr
 go_enter Tryz.func331,Tryz.ntmps331
 go_wp2_with (go_at_call 278; refine (runder_any HX.out HY.out).mono ?_; rw [← HR.out]; rintro e w' ⟨rfl,kk,rfl⟩)
 have HXd:=Lib.hid (HX.out.below (Below.drewN_ (Below.refl _ _) kk))
 have HYd:=Lib.hid (HY.out.below (Below.drewN_ (Below.refl _ _) kk))
 go_wp2_with fail
 refine (rbits_any HYd.out).mono ?_
 rintro e w0 ⟨Lb,rfl,hbits,hLb,hb0⟩
 obtain ⟨k,hk'⟩:∃ k,k=32*lb-Lb:=⟨_,rfl⟩
 have hki:32*(lb:Int)-(Lb:Int)=(k:Int):=by omega
 have hN:k≤31∧2147483648≤t*2^k∧t*2^k<4294967296:=norm_bits hbits HLB.out.symm (by omega) HT.out.symm hk'
 have hk:k≤31:=hN.1
 have HN:=Lib.hid (norm_top b lb t k HLB.out.symm (by omega) HT.out.symm hN.2.1 hN.2.2 hk)
 have HB0:=Lib.hid hb0
 clear hbits hk' hN hb0
 have HX0:=Lib.hid (HXd.out.below HB0.out)
 have HY0:=Lib.hid (HYd.out.below HB0.out)
 go_wp2_with fail
 refine (up_any HY0.out (by omega) k (by omega)).mono ?_
 rintro e w1 ⟨vv,rfl,hvv,hb1⟩
 rw [val_dig] at hvv
 obtain ⟨Av,nv,cv,rfl⟩:=hvv.form
 have hnv:nv=lb:=by rw [hvv.len.1]; exact HN.out.1
 subst hnv
 have HVV:=Lib.hid hvv
 have HB1:=Lib.hid hb1
 clear hvv hb1
 go_wp2_with (at_make; refine wpList_make_words rfl _ _ rfl _ _ _ _ (la+2) (la+2) rfl rfl (by omega) (by omega) (Nat.le_refl _) (by omega) ?_)
 intro w2 hbuf hb2 hz2
 have HBU:=Lib.hid hbuf
 have HB2:=Lib.hid hb2
 clear hz2 hbuf hb2
 go_wp2_with fail
 refine (up_any ((HX0.out.below HB1.out).below HB2.out) (by omega) k (by omega)).mono ?_
 rintro e w3 ⟨va,rfl,hva,hb3⟩
 rw [val_dig] at hva
 obtain ⟨Aa,na,ca',rfl⟩:=hva.form
 have hna:na≤la+2:=by
  rw [hva.len.1]
  refine Nat.le_trans (dig_len_le _ (la+1) ?_) (by omega)
  have h1:=dig_lt a
  rw [← HLA.out] at h1
  have h2:2^k≤2^32:=Nat.pow_le_pow_right (by omega) (by omega)
  rw [Nat.pow_succ]
  exact Nat.mul_lt_mul_of_lt_of_le h1 h2 (by omega)
 obtain ⟨gu,hgu⟩:∃ gu,gu=w1.heap.size:=⟨_,rfl⟩
 rw [← hgu] at HBU
 rw [← hgu]
 have HBU3:=Lib.hid (HBU.out.on hb3)
 have HVA:=Lib.hid hva
 have HB3:=Lib.hid hb3
 have HGU:=Lib.hid hgu
 clear hva hb3 hgu
 go_wp2_with (with_reducible refine wpList_copy_words rfl (.tmp 55) (.tmp 58) rfl gu (la+2) (la+2) _ rfl HBU3.out (by simp) Aa na ca' _ rfl HVA.out hna gu w3 (Below.refl _ _) (Nat.le_refl _) ?_)
 intro w4 hbu4 hb4
 obtain ⟨us0,hus⟩:∃ us0,us0=dig (a*2^k)++List.replicate (la+2-na) 0:=⟨_,rfl⟩
 rw [← hus] at hbu4
 have hus0:val us0=a*2^k:=by rw [hus,val_append,val_zeros,val_dig,Nat.mul_zero,Nat.add_zero]
 have hul0:us0.length=la+2:=by rw [hus,List.length_append,List.length_replicate,← HVA.out.len.1]; omega
 have HUS:=Lib.hid hus0
 have HUL:=Lib.hid hul0
 have HBU4:=Lib.hid hbu4
 have HB4:=Lib.hid hb4
 clear hus hbu4 hb4 hus0 hul0
 go_wp2_with (at_make; refine wpList_make_words rfl _ _ rfl _ _ _ _ (la+2-nv) (la+2-nv) rfl rfl (by omega) (by omega) (Nat.le_refl _) (by omega) ?_)
 intro w5 hbq hb5 hz5
 obtain ⟨gq,hgq⟩:∃ gq,gq=w4.heap.size:=⟨_,rfl⟩
 rw [← hgq] at hbq
 rw [← hgq]
 have HGQ:=Lib.hid hgq
 have HBQ:=Lib.hid hbq
 have HB5:=Lib.hid hb5
 clear hgq hz5 hbq hb5
 have hb45:Below w.heap.size w w5:=by
  have s0:=HB0.out.size
  have s1:=HB1.out.size
  have s2:=HB2.out.size
  have s3:=HB3.out.size
  have s4:=HB4.out.size
  have e0:(w.drewN kk).heap.size=w.heap.size:=rfl
  rw [e0] at s0
  refine (((((Below.drewN_ (Below.refl _ _) kk).trans HB0.out).trans (HB1.out.mono (by omega))).trans (HB2.out.mono (by omega))).trans (HB3.out.mono (by omega))).trans ((HB4.out.mono ?_).trans (HB5.out.mono (by omega)))
  rw [HGU.out]; omega
 have hguq:gu<gq:=by rw [HGQ.out]; exact HBU4.out.lt
 have hBgu:w.heap.size≤gu:=by
  rw [HGU.out]
  have s0:=HB0.out.size
  have s1:=HB1.out.size
  have e0:(w.drewN kk).heap.size=w.heap.size:=rfl
  rw [e0] at s0
  omega
 have HNE:Hid (∀ b o,Av=some ⟨b,o,none⟩→b<gu):=by
  intro b o hA; rw [HGU.out]; exact HVV.out.lt (by omega) b o hA
 have HVV5:Hid (Words w5 (.slice Av nv cv) (dig (b*2^k))):=(((HVV.out.below HB2.out).below HB3.out).under HB4.out HNE.out).below HB5.out
 have HBU5:=Lib.hid (HBU4.out.on HB5.out)
 have HN1:=Lib.hid HN.out.1
 have HN2:=Lib.hid HN.out.2.1
 obtain ⟨V,hV⟩:∃ V,V=b*2^k:=⟨_,rfl⟩
 have hD:=Div.first2 us0 a (b*2^k) k la nv (by have:=dig_lt a; rw [← HLA.out] at this; exact this) HUS.out HUL.out (by omega) hlab hk HN.out.2.2
 have HVlt:Hid (b*2^k<4294967296^nv):=by
  have:=dig_lt (b*2^k)
  rw [HN1.out] at this
  exact this
 rw [← hV] at HVV5 HN1 HN2 hD HVlt
 have HD:=Lib.hid hD
 have HVE:=Lib.hid hV
 have HBv:=Lib.hid hb45
 have hwsz:=HBv.out.size
 have HVP:Hid (0<V):=by
  have h1:=HN1.out
  rcases Nat.eq_zero_or_pos V with h | h
  · rw [h,dig_zero] at h1; simp at h1; omega
  · exact h
 clear hD hV hb45 HX HY HXd HYd HX0 HY0 HVV HBU HBU3 HBU4 HVA HB0 HB1 HB2 HB3 HB4 HB5 HN HT HR
 go_wp2
 go_loopw [13] (fun i wr=>∃ (j:Nat) (us qs:List Nat),j≤la+2-nv∧i=.int .i64 ((j:Int)-1)∧Hid (Div us0 us qs V j (la+2) nv)∧Hid (Buf wr gu us)∧Hid (Buf wr gq qs)∧Hid (Words wr (.slice Av nv cv) (dig V))∧Hid (Below w.heap.size w wr)) (fun i _=>(intOf i+1).toNat)
 case atStart=>exact ⟨la+2-nv,us0,List.replicate (la+2-nv) 0,by omega,by go_num,HD,HBU5,HBQ,HVV5,HBv⟩
 case round =>
  obtain ⟨j,us,qs,hj,rfl,hd,hbu,hbq,hvw,hbel⟩:=hrel
  clear HD HBU5 HBQ HVV5 HBv
  by_cases hj0:0<j
  · obtain ⟨j,rfl⟩:∃ j',j=j'+1:=⟨j-1,by omega⟩
    have e1:((j+1:Nat):Int)-1=(j:Int):=by omega
    rw [e1]
    clear e1
    have hlu:=Lib.hid hd.out.lu
    have hlq:=Lib.hid hd.out.lq
    have hwu:=Lib.hid hbu.out.1
    have HW:=Lib.hid (hd.out.window hwu.out HVlt.out (by omega))
    obtain ⟨mid,hmid⟩:∃ mid,mid=(us.drop j).take (nv+1):=⟨_,rfl⟩
    obtain ⟨x0,hx0⟩:∃ x,x=us.getD (j+nv) 0:=⟨_,rfl⟩
    obtain ⟨x1,hx1⟩:∃ x,x=us.getD (j+nv-1) 0:=⟨_,rfl⟩
    obtain ⟨v1,hv1⟩:∃ x,x=(dig V).getD (nv-1) 0:=⟨_,rfl⟩
    obtain ⟨bv,ov,rfl,hcv⟩:=hvw.out.open_ (by omega)
    have c0:=hbu.out.cell (j+nv) (by rw [hlu.out]; omega)
    have c1:=hbu.out.cell (j+nv-1) (by rw [hlu.out]; omega)
    rw [← hx0] at c0
    rw [← hx1] at c1
    have c3:wr.cell? ⟨bv,ov+(nv-1),none⟩=some (.int .u32 (v1:Int)):=by rw [hv1]; exact hcv (nv-1) (by omega)
    have b0:x0<4294967296:=by rw [hx0]; exact hwu.out.getD _
    have b1:x1<4294967296:=by rw [hx1]; exact hwu.out.getD _
    have b3:v1<4294967296:=by rw [hv1]; exact (Wf_dig V).getD _
    have b3':2147483648≤v1:=by rw [hv1]; exact HN2.out
    obtain ⟨top,htop⟩:∃ top,top=x0*4294967296+x1:=⟨_,rfl⟩
    have hti:(x0:Int)*4294967296+(x1:Int)=(top:Int):=by omega
    have hxb:(x0:Int)*4294967296≤18446744069414584320:=by omega
    have htb:top≤18446744073709551615:=by omega
    obtain ⟨q0,hq0⟩:∃ q0,q0=min (top/v1) 4294967295:=⟨_,rfl⟩
    obtain ⟨tq,htq⟩:∃ tq,tq=top/v1:=⟨_,rfl⟩
    have htqi:(top:Int)/(v1:Int)=(tq:Int):=by rw [htq]; rfl
    have htqb:tq≤18446744073709551615:=by rw [htq]; exact Nat.le_trans (Nat.div_le_self _ _) htb
    have HG0:Hid (val mid<(q0+1)*V):=by
     rw [Hid,hq0,hmid]
     have hw5:=HW.out.2.2.1
     refine guess_first (P:=4294967296^(nv-1)) ?_ ?_ (by omega) HVP.out HW.out.2.2.2.2.2
     · have h1:=val_take_succ ((us.drop j).take (nv+1)) nv (by omega)
       have h2:=val_take_succ ((us.drop j).take (nv+1)) (nv-1) (by omega)
       rw [show nv-1+1=nv by omega] at h2
       rw [val_take_all _ _ (by omega)] at h1
       have h3:=val_lt (((us.drop j).take (nv+1)).take (nv-1)) (((hwu.out.drop j).take _).take _)
       rw [List.length_take,Nat.min_eq_left (by omega)] at h3
       have e4:((us.drop j).take (nv+1)).getD nv 0=x0:=by rw [hx0]; simp [List.getD,List.getElem?_take]
       have e5:((us.drop j).take (nv+1)).getD (nv-1) 0=x1:=by rw [hx1,show j+nv-1=j+(nv-1) by omega]; simp [List.getD,List.getElem?_take,show nv-1<nv+1 by omega]
       rw [e4] at h1
       rw [e5] at h2
       have e6:4294967296^nv=4294967296^(nv-1)*4294967296:=by rw [← Nat.pow_succ]; congr 1; omega
       rw [h1,h2,htop,e6]
       generalize 4294967296^(nv-1)=P at *
       generalize val (((us.drop j).take (nv+1)).take (nv-1))=lo at *
       have e7:(x0*4294967296+x1+1)*P=P*x1+P*4294967296*x0+P:=by
        rw [Nat.add_mul,Nat.add_mul,Nat.one_mul,Nat.mul_comm x1,Nat.mul_comm (x0*4294967296),Nat.mul_comm x0,← Nat.mul_assoc]
        omega
       omega
     · have h1:=val_take_succ (dig V) (nv-1) (by have:=HN1.out; omega)
       rw [show nv-1+1=nv by omega,val_take_all _ _ (by have:=HN1.out; omega),val_dig,← hv1] at h1
       rw [Nat.mul_comm]
       omega
    have hcase:(4294967295<tq∧q0=4294967295)∨(tq≤4294967295∧q0=tq):=by
     rw [hq0,← htq]
     omega
    have HTOP:=Lib.hid htop
    have HMID:=Lib.hid hmid
    have i1:(0:Int)≤(j:Int)+(nv:Int):=by omega
    have i2:(j:Int)+(nv:Int)<(la:Int)+2:=by omega
    have i3:(0:Int)≤(j:Int)+(nv:Int)-1:=by omega
    have i4:(j:Int)+(nv:Int)-1<(la:Int)+2:=by omega
    have i5:(0:Int)≤(nv:Int)-1:=by omega
    have hv11:(1:Int)≤(v1:Int):=by omega
    clear hcv hx0 hx1 hv1 htop hq0 htq hmid
    obtain ⟨wo,rfl⟩:∃ wo:World,wo=wr:=⟨_,rfl⟩
    have hnvb:nv≤4294967296:=by omega
    have hlab2:j+nv+1≤la+2:=by omega
    have hlab3:la+2≤8589934592:=by omega
    rcases hcase with ⟨hcs,rfl⟩ | ⟨hcs,rfl⟩
    all_goals
     first
      | have hci:(4294967295:Int)<(tq:Int):=by omega
      | have hci:(q0:Int)≤4294967295:=by omega
     go_wp2
     go_quiet (fail)
     go_wp2
     clear c0 c1 c3 hti hxb htqi hci i1 i2 i3 i4 i5 hv11
     go_loopw [15] (fun qv wr=>∃ (q:Nat),q<4294967296∧qv=.int .u64 (q:Int)∧Hid (val mid<(q+1)*V)∧Hid (Below wo.heap.size wo wr)) (fun qv _=>(intOf qv).toNat)
     case atStart=>exact ⟨_,by first | exact Nat.lt_succ_of_le hcs | decide | omega,by first | rfl | go_num,HG0,Below.drewN_ (Below.refl _ _) _⟩
     case round =>
      obtain ⟨q,hqb,rfl,hqv,hbo⟩:=hrel
      by_cases hf:q*V≤val mid
      · go_wp2_with fail
        refine (fits_any (hvw.out.below hbo.out) (hbu.out.on hbo.out) hlu.out hlab3 hlab2 hnvb hqb true (by rw [← HMID.out]; simpa using hf)).mono ?_
        rintro e w6 ⟨rfl,hb6⟩
        have HB6:=Lib.hid (hbo.out.trans (hb6.mono hbo.out.size))
        have HBQ6:=Lib.hid (hbq.out.on HB6.out)
        have HBU6:=Lib.hid (hbu.out.on HB6.out)
        have HVW6:=Lib.hid (hvw.out.below HB6.out)
        have HBEL6:=Lib.hid (hbel.out.trans (HB6.out.mono hbel.out.size))
        have hst:=HBQ6.out.cell j (by rw [hlq.out]; omega)
        have hfz:=HBQ6.out.frozen j
        have hgq6:=HBQ6.out.lt
        have HQF:=Lib.hid hf
        have hjq:j<la+2-nv:=by omega
        clear hb6 hf hst hfz
        have hst:w6.cell? ⟨gq,j,none⟩=some (.int .u32 (qs.getD j 0:Nat)):=HBQ6.out.cell j (by rw [hlq.out]; omega)
        have hfz:=HBQ6.out.frozen j
        have hset:=HBQ6.out.set j q (q:Int) hqb rfl
        have honly:Only gq w6 (w6.setCell ⟨gq,j,none⟩ (.int .u32 (q:Int))):=(Only.refl gq w6).set j _
        have HBQ7:=Lib.hid hset
        have HBU7:=Lib.hid (HBU6.out.only honly (by omega))
        have HVW7:=Lib.hid (Only.words HVW6.out honly (fun b o hA=>by have:=HNE.out b o hA; omega))
        have HBEL7:=Lib.hid (HBEL6.out.setCell (show w.heap.size≤gq by omega) (p:=⟨gq,j,none⟩) (.int .u32 (q:Int)))
        have hgq7:gq<(w6.setCell ⟨gq,j,none⟩ (.int .u32 (q:Int))).heap.size:=hset.lt
        have hgu7:=HBU7.out.lt
        clear hset honly HBQ6 HBU6 HVW6 HBEL6 HB6
        go_wp2
        generalize w6.setCell ⟨gq,j,none⟩ (.int .u32 (q:Int))=w7 at HBQ7 HBU7 HVW7 HBEL7 hgq7 hgu7 ⊢
        clear hst hfz hbo hbu hbq hvw hbel
        obtain ⟨pre,hpre⟩:∃ pre,pre=us.take j:=⟨_,rfl⟩
        obtain ⟨post,hpost⟩:∃ post,post=us.drop (j+nv+1):=⟨_,rfl⟩
        have HPL:Hid (pre.length=j):=by rw [hpre]; exact HW.out.2.1
        have HML:Hid (mid.length=nv+1):=by rw [HMID.out]; exact HW.out.2.2.1
        have HUW:Hid (us=pre++(mid++post)):=by rw [hpre,hpost,HMID.out]; exact HW.out.1
        have HPRE:=Lib.hid hpre
        have HPOST:=Lib.hid hpost
        clear hpre hpost
        go_loopw [16,17,18] (fun bv' cv' iv wr=>∃ (k c b:Nat) (ms:List Nat),k≤nv+1∧c<4294967296∧b≤1∧bv'=.int .u64 (b:Int)∧cv'=.int .u64 (c:Int)∧iv=.int .i64 (k:Int)∧Hid (ms.length=k)∧Hid (val ms+q*val ((dig V).take k)=val (mid.take k)+4294967296^k*(b+c))∧Hid (Buf wr gu (pre++((ms++mid.drop k)++post)))∧Hid (Only gu w7 wr)) (fun _ _ iv _=>nv+1-(intOf iv).toNat)
        case atStart =>
         refine ⟨0,0,0,[],by omega,by omega,by omega,rfl,rfl,rfl,rfl,by simp [Hid,val],?_,Only.refl _ _⟩
         rw [List.nil_append,List.drop_zero,Hid,← HUW.out]
         exact HBU7.out
        case round =>
         obtain ⟨k,c,b',ms,hk,hc,hb',rfl,rfl,rfl,HK,HE,hbuf,ho⟩:=hrel
         by_cases hk1:k<nv+1
         · have hvw8:=Only.words HVW7.out ho.out (fun b o hA=>by have:=HNE.out b o hA; omega)
           obtain ⟨x,hx⟩:∃ x,x=mid.getD k 0:=⟨_,rfl⟩
           obtain ⟨y,hy⟩:∃ y,y=(dig V).getD k 0:=⟨_,rfl⟩
           have hx32:x<4294967296:=by rw [hx,HMID.out]; exact ((hwu.out.drop j).take _).getD k
           have hy32:y<4294967296:=by rw [hy]; exact (Wf_dig V).getD k
           have hcell:=hbuf.out.cell (j+k) (by rw [mid_len pre ms mid post k HK.out (by rw [HML.out]; omega),HPL.out,HML.out]; omega)
           have hfz:=hbuf.out.frozen (j+k)
           have hg:=mid_get pre ms mid post k HK.out (by rw [HML.out]; omega)
           rw [HPL.out] at hg
           rw [hg,← hx] at hcell
           clear hg
           obtain ⟨m,hm⟩:∃ m,m=q*y:=⟨_,rfl⟩
           have hmi:(q:Int)*(y:Int)=(m:Int):=by rw [hm]; exact (Int.natCast_mul _ _).symm
           have hcar:=step_carry q y c hqb hy32 hc
           rw [← hm] at hcar
           obtain ⟨hc1,hc2⟩:=hcar
           obtain ⟨t,ht⟩:∃ t,t=c+m:=⟨_,rfl⟩
           have hti:(c:Int)+(m:Int)=(t:Int):=by omega
           rw [← ht] at hc1 hc2
           obtain ⟨lo,hlo⟩:∃ lo,lo=t % 4294967296:=⟨_,rfl⟩
           have hloi:(t:Int) % 4294967296=(lo:Int):=by omega
           have hlob:lo<4294967296:=by omega
           obtain ⟨X,hX⟩:∃ X,X=4294967296+x-lo-b':=⟨_,rfl⟩
           have hXi:4294967296+(x:Int)-(lo:Int)-(b':Int)=(X:Int):=by omega
           have hXb:X≤8589934591:=by omega
           have HXX:=Lib.hid hX
           have HX:=Lib.hid hx
           have HY:=Lib.hid hy
           have HM:=Lib.hid hm
           have HT:=Lib.hid ht
           have HLO:=Lib.hid hlo
           have HV8:=Lib.hid hvw8
           have hszz:=hbuf.out.lt
           have hki:(k:Int)+(j:Int)=((j+k:Nat):Int):=by omega
           clear hvw8 hx hy hm ht hlo hX
           go_wp2_with fail
           refine (at_any HV8.out k (by omega)).mono ?_
           rintro e w8 ⟨rfl,rfl⟩
           rw [← HY.out]
           go_wp2
           go_roundw
           case rel =>
            refine ⟨k+1,t/4294967296,1-X/4294967296,ms++[X % 4294967296],by omega,hc2,by omega,by go_num,by go_num,by go_num,?_,?_,?_,ho.out.set _ _⟩
            · rw [Hid,List.length_append,HK.out]; rfl
            · exact step_val mid (dig V) ms k q c b' (X % 4294967296) (1-X/4294967296) t HK.out HE.out (by rw [HT.out,HM.out,HY.out]) (by rw [← HLO.out,← HX.out]; have:=HXX.out; omega)
            · have h:=hbuf.out.set (j+k) (X % 4294967296) ((X:Int) % 4294967296) (by omega) (by omega)
              have h2:=mid_set pre ms mid post k (X % 4294967296) HK.out (by rw [HML.out]; omega)
              rw [HPL.out] at h2
              rw [h2] at h
              first | exact h | (rw [Nat.add_comm k j]; exact h)
           case measure=>simp [intOf]; omega
         · obtain rfl:k=nv+1:=by omega
           have hfin:=take_end (U:=val mid) hbuf.out.1.right.left.left HK.out (by
            have h:=HE.out
            rwa [val_take_all (dig V) (nv+1) (by have:=HN1.out; omega),val_dig,val_take_all mid (nv+1) (by rw [HML.out]; exact Nat.le_refl _)] at h) HQF.out hqv.out
           have hnx:=Lib.hid (hd.out.next (q:=q) (ms:=ms) hwu.out HVlt.out (by omega) HUL.out (by rw [HK.out,← HMID.out,HML.out]) (by rw [← HMID.out]; exact hfin.1) hfin.2)
           have hbuf2:=hbuf.out
           rw [List.drop_of_length_le (show mid.length≤nv+1 by rw [HML.out]; exact Nat.le_refl _),List.append_nil,HPRE.out,HPOST.out] at hbuf2
           have HBUF2:=Lib.hid hbuf2
           have HBQ9:=Lib.hid (HBQ7.out.only ho.out (by omega))
           have HVW9:=Lib.hid (Only.words HVW7.out ho.out (fun b o hA=>by have:=HNE.out b o hA; omega))
           have HBEL9:=Lib.hid (HBEL7.out.trans (ho.out.below hBgu HBEL7.out.size))
           clear hfin hbuf2
           go_wp2
           go_roundw
           case rel=>exact ⟨j,_,_,by omega,by go_num,hnx,HBUF2,HBQ9,HVW9,HBEL9⟩
           case measure=>simp [intOf]
      · have hq1:1≤q:=by
         rcases Nat.eq_zero_or_pos q with h | h
         · subst h; simp at hf
         · exact h
        have HQF:=Lib.hid (Nat.not_le.1 hf)
        go_wp2_with fail
        refine (fits_any (hvw.out.below hbo.out) (hbu.out.on hbo.out) hlu.out hlab3 hlab2 hnvb hqb false (by rw [← HMID.out]; simpa using hf)).mono ?_
        rintro e w6 ⟨rfl,hb6⟩
        have HB6:=Lib.hid (hbo.out.trans (hb6.mono hbo.out.size))
        clear hb6 hf
        go_wp2
        go_roundw
        case rel=>exact ⟨q-1,by omega,by go_num,by rw [Hid,Nat.sub_add_cancel hq1]; exact HQF.out,HB6⟩
        case measure=>simp [intOf]; omega
  · obtain rfl:j=0:=by omega
    have HLAST:=Lib.hid (Div.last2 (b:=b) (k:=k) (L:=la+2) (n:=nv) (us0:=us0) (us:=us) (qs:=qs) (by rw [← HVE.out]; exact hd.out) HUS.out)
    have hlu:=Lib.hid hd.out.lu
    have hlq:=Lib.hid hd.out.lq
    have hbw:=hbu.out.words (cap:=la+2) (by rw [hlu.out]; omega) (by rw [hlu.out]; exact Nat.le_refl _)
    have hqw:=hbq.out.words (cap:=la+2-nv) (by rw [hlq.out]; omega) (by rw [hlq.out]; exact Nat.le_refl _)
    rw [hlq.out] at hqw
    rw [hlu.out] at hbw
    have HBW:=Lib.hid hbw
    have HQW:=Lib.hid hqw
    clear hbw hqw
    go_wp2_with fail
    refine (rcut_any HQW.out).mono ?_
    rintro e w7 ⟨rfl,rfl⟩
    go_wp2_with fail
    refine (rcut_any HBW.out).mono ?_
    rintro e w8 ⟨rfl,rfl⟩
    have HBT:=Lib.hid HBW.out.trim_
    have hbtl:(trim us).length≤17179869184:=HBT.out.2.1
    go_wp2_with fail
    refine (down_any HBT.out hbtl k (by omega)).mono ?_
    rintro e w9 ⟨vr,rfl,hvr,hb9⟩
    have HVR:=Lib.hid hvr
    have HB9:=Lib.hid hb9
    clear hvr hb9
    go_wp2
    go_ret2
    refine ⟨.slice (some ⟨gq,0,none⟩) (trim qs).length (la+2-nv),vr,rfl,?_,?_,hbel.out.trans (HB9.out.mono hbel.out.size)⟩
    · rw [← dig_of qs _ HQW.out.1 HLAST.out.1]
      exact HQW.out.trim_.below HB9.out
    · have:=HVR.out
      rw [val_trim,HLAST.out.2] at this
      exact this
theorem divided_any {A B:Option Addr} {la ca lb cb a b:Nat} {w:World} (hx:Words w (.slice A la ca) (dig a)) (hy:Words w (.slice B lb cb) (dig b)) (hb:0<b) (hla:la≤4294967296) :
  Calls Tryz.prog 331 #[.slice A la ca,.slice B lb cb] w (DivPost w a b):=by
 rcases Nat.lt_or_ge a b with h | h
 · exact divided_small hx hy h
 · have hl:=hy.len.1
   have hp:0<(dig b).length:=by rw [dig_pos b hb]; simp
   rcases (by omega:lb=1∨2≤lb) with h1 | h1
   · subst h1
     exact divided_word hx hy h
   · exact divided_long hx hy h h1 hla
structure FracParts (b:Bool) (s:ByteArray) (c:Bool) (t:ByteArray) (x:Rat):Prop where
 hs:s.size≤4294967296
 ht:t.size≤4294967296
 h0:numOf c t≠0
 k1:Okn (numOf b s)
 k2:Okn (numOf c t)
 eq:x=Rat.divInt (numOf b s) (numOf c t)
 fit:Fit x
 val:(Value.agg #[.bool b,.string s,.bool c,.string t])=fracV x
theorem parts_of {b c:Bool} {s t:ByteArray} (h:IsFrac (.agg #[.bool b,.string s,.bool c,.string t])):∃ x,FracParts b s c t x:=by
 obtain ⟨h1,h2,h3,h4,h5,h6⟩:=isFrac_parts h
 have z1:(mag (numOf b s).natAbs).size≤16384:=by rw [(numOf_ok h1).2.1]; exact Nat.le_trans h3 (by decide)
 have z2:(mag (numOf c t).natAbs).size≤16384:=by rw [(numOf_ok h2).2.1]; exact Nat.le_trans h4 (by decide)
 have hf:Fit (Rat.divInt (numOf b s) (numOf c t)):=by
  obtain ⟨_,e2,_,e4⟩:=agg4 h6
  exact ⟨by rw [← e2]; exact h3,by rw [← e4]; exact h4⟩
 exact ⟨_,Nat.le_trans h3 (by decide),Nat.le_trans h4 (by decide),by omega,okn_size z1,okn_size z2,rfl,hf,h6⟩
theorem FracParts.isFrac {b c:Bool} {s t:ByteArray} {x:Rat} (h:FracParts b s c t x):IsFrac (.agg #[.bool b,.string s,.bool c,.string t]):=⟨x,h.fit,h.val⟩
theorem BoxAt.new_at {w:World} {n:Nat} (cs:Array Value) (t:TypeId) (hn:n=w.heap.size):BoxAt (w.alloc (.cells cs t)) n cs t:=hn▸BoxAt.new w cs t
instance (q:Rat):Decidable (Fit q):=inferInstanceAs (Decidable (_∧_))
def ansK (q:Rat):Int:=if Fit q then 0 else 4
theorem below_alloc_ {w0 w:World} (h:Below w0.heap.size w0 w) (o:Obj):Below w0.heap.size w0 (w.alloc o):=h.trans ((below_new w o).mono h.size)
theorem below_put2 {w0 w:World} {g B:Nat} (h:Below B w0 w) (hg:B≤g) (v0 v1:Value):Below B w0 ((w.setCell ⟨g,0,none⟩ v0).setCell ⟨g,1,none⟩ v1) :=
 (h.setCell hg _).setCell hg _
theorem yielded_of {ops:Array Oper} {t:Array Value} {j d:Nat} {b:Bool} {o:Oper} (ho:ops[j]?=some o) (hd:o.dst=some d) (h:t.getD d undef=.bool b):yielded ops t j=some b:=by
 have h1:t[d]?=some (.bool b):=by
  rw [Array.getD_eq_getD_getElem?] at h
  cases ht:t[d]? with
  | none=>rw [ht] at h; simp [undef] at h
  | some x=>rw [ht] at h; exact congrArg some h
 unfold yielded
 rw [ho,Option.bind_some,hd,Option.bind_some,h1]
def Frames (w:World) (l:List (Nat × Array Value × TypeId)):Prop:=∀ x∈l,BoxAt w x.1 x.2.1 x.2.2
theorem Frames.nil (w:World):Frames w []:=fun _ h=>nomatch h
theorem Frames.on {w w':World} {l:List (Nat × Array Value × TypeId)} (h:Frames w l) (k:Below w.heap.size w w'):Frames w' l:=fun x hx=>(h x hx).on k
theorem Frames.push {w:World} {l:List (Nat × Array Value × TypeId)} (h:Frames w l) (n:Nat) (cs:Array Value) (t:TypeId) (hn:n=w.heap.size):Frames (w.alloc (.cells cs t)) ((n,cs,t)::l):=by
 intro x hx
 rcases List.mem_cons.1 hx with rfl | hx
 · exact BoxAt.new_at cs t hn
 · exact (h x hx).on (below_new w _)
theorem Frames.get {w:World} {l:List (Nat × Array Value × TypeId)} (h:Frames w l) (i:Nat) {x:Nat × Array Value × TypeId} (hx:l[i]?=some x):BoxAt w x.1 x.2.1 x.2.2:=h x (List.mem_of_getElem? hx)
theorem str_empty {s:ByteArray} {n:Nat} (h:s=mag n):s.size=0↔n=0:=by
 rw [h,mag_size]
 exact List.length_eq_zero_iff.trans (led_nil_iff n)
theorem rsign_any {w:World} (p:Bool) (s:ByteArray) (n:Int) (hp:p=decide (n<0)) (hs:s=mag n.natAbs) :
  Calls Tryz.prog 247 #[.agg #[.bool p,.string s]] w fun e w'=>e=.returned (.int .i64 n.sign)∧Below w.heap.size w w':=by
 have HB:=Lib.hid (below_new w (.cells #[.bool p,.string s] 23))
 have HP:=Lib.hid hp
 have HE:=Lib.hid (str_empty hs)
 clear hp hs
 by_cases h0:s.size=0
 · obtain rfl:=empty_data h0
   have HN:Hid (n=0):=by have:=HE.out.1 h0; unfold Hid; omega
   clear h0
   go_enter Tryz.func247,Tryz.ntmps247
   go_wp2
   go_ret
   exact ⟨by rw [HN.out]; rfl,HB.out⟩
 · obtain ⟨hE,hE2⟩:=toList_some h0
   have HN:Hid (n≠0):=fun e=>h0 (HE.out.2 (by rw [e]; rfl))
   clear h0
   cases p
   · go_enter Tryz.func247,Tryz.ntmps247
     go_wp2
     go_ret
     refine ⟨?_,HB.out⟩
     have h1:¬ n<0:=of_decide_eq_false HP.out.symm
     have h2:=HN.out
     rw [Int.sign_eq_one_of_pos (by omega)]
     rfl
   · go_enter Tryz.func247,Tryz.ntmps247
     go_wp2
     go_ret
     refine ⟨?_,HB.out⟩
     have h1:n<0:=of_decide_eq_true HP.out.symm
     rw [Int.sign_eq_neg_one_of_neg h1]
     rfl
def FormedB (p:Bool) (s:ByteArray):Prop:=s.size=0∧p=false∨s.size≠0∧head s≠0
set_option maxRecDepth 100000 in
theorem rformed_any {w:World} (p:Bool) (s:ByteArray) (r:Bool) (hr:r=true↔FormedB p s) :
  Calls Tryz.prog 246 #[.agg #[.bool p,.string s]] w fun e w'=>e=.returned (.bool r)∧Below w.heap.size w w':=by
 have HB:=Lib.hid (below_new w (.cells #[.bool p,.string s] 23))
 have HR:=Lib.hid hr
 clear hr
 by_cases h0:s.size=0
 · obtain rfl:=empty_data h0
   have HQ:Hid (r=!p):=by
    have h1:=HR.out
    unfold FormedB at h1
    cases p<;>cases r<;>simp_all [Hid]
   clear h0
   go_enter Tryz.func246,Tryz.ntmps246
   go_wp2
   go_ret
   exact ⟨by rw [HQ.out]; rfl,HB.out⟩
 · obtain ⟨hE,hE2⟩:=toList_some h0
   have hp:0<s.size:=by omega
   obtain ⟨t,ht⟩:∃ t,t=head s:=⟨_,rfl⟩
   have ht2:s[0].toNat=t:=by rw [ht]; exact head_eq hp
   have HQ:Hid (r=true↔t≠0):=by
    have h1:=HR.out
    unfold FormedB at h1
    rw [← ht] at h1
    exact ⟨fun h=>(h1.1 h).elim (fun k=>absurd k.1 h0) (fun k=>k.2),fun h=>h1.2 (.inr ⟨h0,h⟩)⟩
   clear ht
   by_cases hz:t=0
   · subst hz
     go_enter Tryz.func246,Tryz.ntmps246
     go_wp2
     go_ret
     refine ⟨?_,HB.out⟩
     cases r
     · rfl
     · exact absurd rfl (HQ.out.1 rfl)
   · have hz1:((t:Int)==0)=false:=by rw [beq_eq_false_iff_ne]; omega
     have hz2:((t:Int) != 0)=true:=by rw [bne_iff_ne]; omega
     go_enter Tryz.func246,Tryz.ntmps246
     go_wp2
     go_ret
     refine ⟨?_,HB.out⟩
     rw [HQ.out.2 hz]
     rfl
theorem len_mag {s:ByteArray} {N:Nat} (hs:s=mag N) (h:s.size≤1000000000):(dig N).length≤250000001:=by
 have:=wl_size (n:=N) (k:=1000000000) (by rw [← hs]; exact h)
 omega
set_option maxHeartbeats 3200000 in
set_option maxRecDepth 100000 in
theorem rgcd_any {w0:World} (p q:Bool) (s t:ByteArray) (N M:Nat) (hs:s=mag N) (ht:t=mag M) (h1:s.size≤1000000000) (h2:t.size≤1000000000) :
  Calls Tryz.prog 248 #[.agg #[.bool p,.string s],.agg #[.bool q,.string t]] w0 fun e w'=>∃ g,e=.returned (.agg #[.bool false,.string g])∧Hid (g=mag (Nat.gcd N M))∧Below w0.heap.size w0 w':=by
 have hf0:=((Frames.nil w0).push w0.heap.size #[.bool p,.string s] 23 rfl).push (w0.heap.size+1) #[.bool q,.string t] 23 (by simp)
 have hf1:=hf0.push (w0.heap.size+1+1) #[.bool false,.string ⟨#[]⟩] 23 (by simp)
 have HB:=Lib.hid (below_alloc_ (below_alloc_ (below_new w0 (.cells #[.bool p,.string s] 23)) (.cells #[.bool q,.string t] 23)) (.cells #[.bool false,.string ⟨#[]⟩] 23))
 have HF:=Lib.hid hf1
 have HS:=Lib.hid hs
 have HT:=Lib.hid ht
 have KN:Hid ((dig N).length≤250000001):=len_mag hs h1
 have KM:Hid ((dig M).length≤250000001):=len_mag ht h2
 have H1:Hid (s.size≤4294967296):=Nat.le_trans h1 (by decide)
 have H2:Hid (t.size≤4294967296):=Nat.le_trans h2 (by decide)
 clear hs ht h1 h2 hf0 hf1
 go_enter Tryz.func248,Tryz.ntmps248
 go_wp2
 generalize ((w0.alloc (.cells #[.bool p,.string s] 23)).alloc (.cells #[.bool q,.string t] 23)).alloc (.cells #[.bool false,.string ⟨#[]⟩] 23)=w1 at HB HF ⊢
 refine wp_region_acts 6 (fun w'=>Below w0.heap.size w0 w'∧Frames w' [(w0.heap.size+1+1,#[.bool false,.string ⟨#[]⟩],23),(w0.heap.size+1,#[.bool q,.string t],23),(w0.heap.size,#[.bool p,.string s],23)]) (fun w w'=>Below w.heap.size w w') (fun i w v=>match i with
   | 0=>v=.pointer (some ⟨w0.heap.size,1,none⟩)
   | 1=>v=.string s
   | 2=>∃ A c,v=.slice A (dig N).length c∧Words w (.slice A (dig N).length c) (dig N)
   | 3=>v=.pointer (some ⟨w0.heap.size+1,1,none⟩)
   | 4=>v=.string t
   | _=>∃ A c,v=.slice A (dig M).length c∧Words w (.slice A (dig M).length c) (dig M)) (by kernel_rfl) (by kernel_rfl) (by kernel_rfl) ⟨HB.out.drew,HF.out.on (Below.drew (Below.refl _ _))⟩ (fun _ _=>(Below.refl _ _)) ?_ ⟨?_,?_,?_,?_,?_,?_,trivial⟩ ?_
 · intro i w1 w2 v hC hC2 hE hV
   match i with
   | 0=>exact hV
   | 1=>exact hV
   | 2=>obtain ⟨A,c,e,h⟩:=hV; exact ⟨A,c,e,h.below hE⟩
   | 3=>exact hV
   | 4=>exact hV
   | _+5=>obtain ⟨A,c,e,h⟩:=hV; exact ⟨A,c,e,h.below hE⟩
 · intro a' w' hag hC hd K hK
   have e2:a'.tmps.getD 2 undef=.pointer (some ⟨w0.heap.size,0,none⟩):=hag 2 rfl
   go_step
   exact hK _ _ hC ((Below.refl _ _)) rfl
 · intro a' w' hag hC hd K hK
   have e9:a'.tmps.getD 9 undef=.pointer (some ⟨w0.heap.size,1,none⟩):=hd.1
   have hc0:=(hC.2.get 2 rfl).cell 1 (.string s) rfl
   have HK:=Lib.hid (hK (.string s) _ hC (Below.refl _ _) rfl)
   clear hK hC
   go_step
   exact HK.out
 · intro a' w' hag hC hd K hK
   have e10:a'.tmps.getD 10 undef=.string s:=hd.1
   go_step
   refine (words_any s N HS.out H1.out).mono ?_
   rintro e w2 ⟨A,c,rfl,h1,h2⟩
   exact hK _ _ ⟨hC.1.trans (h2.mono hC.1.size),hC.2.on h2⟩ h2 ⟨_,_,rfl,h1⟩
 · intro a' w' hag hC hd K hK
   have e3:a'.tmps.getD 3 undef=.pointer (some ⟨w0.heap.size+1,0,none⟩):=hag 3 rfl
   go_step
   exact hK _ _ hC ((Below.refl _ _)) rfl
 · intro a' w' hag hC hd K hK
   have e12:a'.tmps.getD 12 undef=.pointer (some ⟨w0.heap.size+1,1,none⟩):=hd.1
   have hc0:=(hC.2.get 1 rfl).cell 1 (.string t) rfl
   have HK:=Lib.hid (hK (.string t) _ hC (Below.refl _ _) rfl)
   clear hK hC
   go_step
   exact HK.out
 · intro a' w' hag hC hd K hK
   have e13:a'.tmps.getD 13 undef=.string t:=hd.1
   go_step
   refine (words_any t M HT.out H2.out).mono ?_
   rintro e w2 ⟨A,c,rfl,h1,h2⟩
   exact hK _ _ ⟨hC.1.trans (h2.mono hC.1.size),hC.2.on h2⟩ h2 ⟨_,_,rfl,h1⟩
 · intro u w' hC hall
   obtain ⟨u0,u1,u2,u3,u4,u5,_⟩:=hall
   have u0:u 0=.pointer (some ⟨w0.heap.size,1,none⟩):=u0
   have u1:u 1=.string s:=u1
   obtain ⟨A11,c11,eu2,h11⟩:=u2
   have u2:u 2=.slice A11 (dig N).length c11:=eu2
   have u3:u 3=.pointer (some ⟨w0.heap.size+1,1,none⟩):=u3
   have u4:u 4=.string t:=u4
   obtain ⟨A14,c14,eu5,h14⟩:=u5
   have u5:u 5=.slice A14 (dig M).length c14:=eu5
   simp only [fillR,List.take_succ_cons,List.take_zero,Act.put,List.setIfInBounds_toArray,List.set_cons_succ,List.set_cons_zero,Nat.zero_add,Nat.reduceAdd,u0,u1,u2,u3,u4,u5]
   clear u0 u1 u2 u3 u4 u5
   have HC:=Lib.hid hC
   have H11:=Lib.hid h11
   have H14:=Lib.hid h14
   obtain ⟨lN,hlN⟩:∃ l,l=(dig N).length:=⟨_,rfl⟩
   obtain ⟨lM,hlM⟩:∃ l,l=(dig M).length:=⟨_,rfl⟩
   rw [← hlN] at H11
   rw [← hlM] at H14
   rw [← hlN,← hlM]
   clear hC h11 h14 hlN hlM
   go_wp2
   go_loopg [5,6] M (fun k x y wr=>∃ (A B:Option Addr) (la ca lb cb:Nat) (u v:Nat),x=.slice A la ca∧y=.slice B lb cb∧Hid (Words wr (.slice A la ca) (dig u))∧Hid (Words wr (.slice B lb cb) (dig v))∧Hid (Nat.gcd u v=Nat.gcd N M)∧Hid (v≤k)∧Hid ((dig u).length≤250000001)∧Hid ((dig v).length≤250000001)∧Hid (Below w0.heap.size w0 wr)∧Hid (BoxAt wr (w0.heap.size+1+1) #[.bool false,.string ⟨#[]⟩] 23))
   case atStart=>exact ⟨_,_,_,_,_,_,N,M,rfl,rfl,H11,H14,rfl,Nat.le_refl _,KN,KM,HC.out.1,HC.out.2.get 0 rfl⟩
   case round =>
    obtain ⟨A,B,la,ca,lb,cb,u,v,rfl,rfl,hu,hv,hg,hk,hul,hvl,hb,hbox⟩:=hrel
    have hl:=hv.out.len.1
    have hlb:=hv.out.2.1
    by_cases h0:0<lb
    · have hv0:0<v:=by
       rcases Nat.eq_zero_or_pos v with h | h
       · rw [h,dig_zero] at hl; simp at hl; omega
       · exact h
      have HV0:=Lib.hid hv0
      have hlb2:lb≤17179869184:=by omega
      clear hl hlb hv0
      go_wp2_with fail
      refine (divided_any hu.out hv.out HV0.out (by rw [hu.out.len.1]; exact Nat.le_trans hul.out (by decide))).mono ?_
      rintro e w3 ⟨v1,v2,rfl,h1,h2,h3⟩
      obtain ⟨A2,m2,c2,rfl⟩:=h2.form
      have H2:=Lib.hid h2
      have H3:=Lib.hid h3
      clear h1 h2 h3
      go_wp2
      go_roundg (u % v)
      case measure=>exact Nat.lt_of_lt_of_le (Nat.mod_lt _ HV0.out) hk.out
      case rel =>
       refine ⟨B,A2,lb,cb,m2,c2,v,u % v,rfl,rfl,hv.out.below H3.out,H2.out,?_,Nat.le_refl _,hvl.out,?_,hb.out.trans (H3.out.mono hb.out.size),hbox.out.on H3.out⟩
       · rw [Hid,← hg.out,Nat.gcd_comm v,← Nat.gcd_rec,Nat.gcd_comm]
       · exact Nat.le_trans (dig_len_mono _ _ (Nat.le_of_lt (Nat.mod_lt _ HV0.out))) hvl.out
    · obtain rfl:lb=0:=by omega
      have hv0:=(dig_nil_iff v).1 (List.eq_nil_of_length_eq_zero hl.symm)
      subst hv0
      have hgu:=hg.out
      rw [Nat.gcd_zero_right] at hgu
      have HG:=Lib.hid hgu
      clear hl hlb hgu
      go_wp2_with fail
      refine (made_any false hu.out (by rw [hu.out.len.1]; exact Nat.le_trans hul.out (by decide))).mono ?_
      rintro e w3 ⟨rfl,hb3⟩
      have hval:wholeV (sg false (val (dig u)))=.agg #[.bool false,.string (mag u)]:=by rw [val_dig]; exact wholeV_nat u
      rw [hval]
      obtain ⟨g,hg2⟩:∃ g,g=mag u:=⟨_,rfl⟩
      rw [← hg2]
      have HGG:Hid (g=mag (Nat.gcd N M)):=by rw [hg2,HG.out]; rfl
      have HX:=Lib.hid (hbox.out.on hb3)
      have HB3:=Lib.hid (hb.out.trans (hb3.mono hb.out.size))
      have hp0:=HX.out.cell 0 _ rfl
      have hp1:=HX.out.cell 1 _ rfl
      have hf:=HX.out.frozen
      clear hval hg2 hb3
      go_wp2
      have hk:=(HX.out.set 0 (.bool false)).set 1 (.string g)
      have k0:=hk.cell 0 _ rfl
      have k1:=hk.cell 1 _ rfl
      exact bodyPost_ret (v:=.agg #[.bool false,.string g]) (by simp [results,Tryz.results248,go_sem,k0,k1]) rfl ⟨_,rfl,HGG,below_put2 HB3.out (by omega) _ _⟩
end Go.Proofs.YthkpghhoffihmaaGreatDoor
end
section
namespace Go.Proofs.YthkpghhoffihmaaGreatDoor
section
open Go.RowKit
def R3FitsPost (s t:ByteArray) (w:World) (e:Ending) (w':World):Prop:=∃ r,e=.returned (.bool r)∧(r=true↔s.size≤1024∧t.size≤1024)∧Below w.heap.size w w'
set_option maxRecDepth 100000 in
theorem r3fits_any {w:World} (b c:Bool) (s t:ByteArray) :
  Calls Tryz.prog 111 #[.agg #[.bool b,.string s,.bool c,.string t]] w (R3FitsPost s t w):=by
 have HB:=Lib.hid (below_new w (.cells #[.bool b,.string s,.bool c,.string t] 25))
 by_cases h1:s.size≤1024
 · have h1i:(s.size:Int)≤1024:=by omega
   by_cases h2:t.size≤1024
   · have h2i:(t.size:Int)≤1024:=by omega
     go_enter Tryz.func111,Tryz.ntmps111
     go_wp2
     go_ret
     exact ⟨true,rfl,⟨fun _=>⟨h1,h2⟩,fun _=>rfl⟩,HB.out⟩
   · have h2i:(1024:Int)<(t.size:Int):=by omega
     have h2d:decide ((t.size:Int)≤1024)=false:=decide_eq_false (by omega)
     go_enter Tryz.func111,Tryz.ntmps111
     go_wp2
     go_ret
     exact ⟨false,rfl,⟨fun h=>Bool.noConfusion h,fun h=>absurd h.2 h2⟩,HB.out⟩
 · have h1i:(1024:Int)<(s.size:Int):=by omega
   go_enter Tryz.func111,Tryz.ntmps111
   go_wp2
   go_ret
   exact ⟨false,rfl,⟨fun h=>Bool.noConfusion h,fun h=>absurd h.1 h1⟩,HB.out⟩
theorem divInt_parts (n m:Int) (hm:m≠0) (g:Int) (hg:g=if m<0 then -((Nat.gcd n.natAbs m.natAbs:Nat):Int) else ((Nat.gcd n.natAbs m.natAbs:Nat):Int)) :
  g≠0∧g ∣ n∧g ∣ m∧(Rat.divInt n m).num=n/g∧((Rat.divInt n m).den:Int)=m/g:=by
 have hG:0<Nat.gcd n.natAbs m.natAbs:=Nat.gcd_pos_of_pos_right _ (by omega)
 obtain ⟨G,hGG⟩:∃ G:Nat,G=Nat.gcd n.natAbs m.natAbs:=⟨_,rfl⟩
 rw [← hGG] at hg hG
 have d1:(G:Int) ∣ n:=by rw [hGG]; exact Int.ofNat_dvd_left.2 (Nat.gcd_dvd_left _ _)
 have d2:(G:Int) ∣ m:=by rw [hGG]; exact Int.ofNat_dvd_left.2 (Nat.gcd_dvd_right _ _)
 have e1:Int.gcd m n=G:=by rw [hGG,Int.gcd_comm]; rfl
 have h1:=Rat.num_divInt n m
 have h2:=Rat.den_divInt n m
 rw [e1] at h1 h2
 rw [if_neg hm] at h2
 by_cases h:m<0
 · rw [if_pos h] at hg
   subst hg
   refine ⟨by omega,Int.neg_dvd.2 d1,Int.neg_dvd.2 d2,?_,?_⟩
   · rw [h1,Int.sign_eq_neg_one_of_neg h,Int.ediv_neg,show (-1:Int)*n = -n by omega,Int.neg_ediv_of_dvd d1]
   · rw [h2,Int.natCast_ediv,Int.ediv_neg,show ((m.natAbs:Nat):Int) = -m by omega,Int.neg_ediv_of_dvd d2]
 · rw [if_neg h] at hg
   subst hg
   refine ⟨by omega,d1,d2,?_,?_⟩
   · rw [h1,Int.sign_eq_one_of_pos (by omega),Int.one_mul]
   · rw [h2,Int.natCast_ediv,show ((m.natAbs:Nat):Int)=m by omega]
end
end Go.Proofs.YthkpghhoffihmaaGreatDoor
end
section
namespace Go.Proofs.YthkpghhoffihmaaGreatDoor
open Go.RowKit
structure Fr (w0 w:World) (l:List (Nat × Array Value × TypeId)):Prop where
 below:Below w0.heap.size w0 w
 boxes:Frames w l
 dist:l.Pairwise (fun x y=>x.1≠y.1)
 low:∀ x∈l,w0.heap.size≤x.1
theorem unwanted_of {ops:Array Oper} {t:Array Value} {j d:Nat} {b b':Bool} {o o':Oper} (hg:o'.guard=some (j,b)) (ho:ops[j]?=some o) (hd:o.dst=some d) (h:t.getD d undef=.bool b') (hb:b'≠b):Region.wanted o' (yielded ops t)=false:=by
 unfold Region.wanted
 rw [hg]
 simp [yielded_of ho hd h,hb]
theorem agg2 {a b c d:Value} (h:Value.agg #[a,b]=.agg #[c,d]):a=c∧b=d:=by
 injection h with h
 have h:=congrArg Array.toList h
 simpa using h
theorem whole_cells {p:Bool} {s:ByteArray} {n:Int} (h:(Value.agg #[.bool p,.string s])=wholeV n):p=decide (n<0)∧s=mag n.natAbs:=by
 obtain ⟨h1,h2⟩:=agg2 h
 exact ⟨Value.bool.inj h1,Value.string.inj h2⟩
theorem sz_of {p:Bool} {s:ByteArray} {n:Int} (h:(Value.agg #[.bool p,.string s])=wholeV n) {k:Nat} (b:sz n≤k):s.size≤k:=by
 rw [(whole_cells h).2]; exact b
theorem formed_num {p:Bool} {s:ByteArray} (h:FormedB p s):decide (numOf p s<0)=p∧mag (numOf p s).natAbs=s:=by
 have hp:Plain1 s:=by
  rcases h with h1 | h1
  · exact .inl h1.1
  · exact .inr h1.2
 have h1:=mag_num hp
 have h2:s.size≠0→num s≠0:=by
  intro k e
  rw [e,mag_zero] at h1
  rw [← h1] at k
  exact k rfl
 have h3:(numOf p s).natAbs=num s:=by unfold numOf sg; cases p<;>simp
 refine ⟨?_,by rw [h3,h1]⟩
 rcases h with h4 | h4
 · have:num s=0:=by have:=num_lt s; rw [h4.1] at this; omega
   rw [h4.2]
   unfold numOf sg
   simp [this]
 · have:=h2 h4.1
   unfold numOf sg
   cases p
   · simp
   · simp; omega
theorem isFrac_doc {b c:Bool} {s t:ByteArray}:IsFrac (.agg #[.bool b,.string s,.bool c,.string t]) ↔
  (s.size≤1024∧t.size≤1024)∧FormedB b s∧FormedB c t∧0<numOf c t∧Nat.gcd (numOf b s).natAbs (numOf c t).natAbs=1:=by
 constructor
 · intro h
   obtain ⟨h1,h2,h3,h4,h5,h6⟩:=isFrac_parts h
   refine ⟨⟨h3,h4⟩,h1.1,h2.1,h5,?_⟩
   obtain ⟨q,hf,hv⟩:=h
   obtain ⟨rfl,rfl,rfl,rfl⟩:=agg4 hv
   have n2:=numOf_mag (q.den:Int)
   rw [show decide ((q.den:Int)<0)=false by simp,Int.natAbs_natCast] at n2
   rw [numOf_mag,n2,Int.natAbs_natCast]
   exact q.reduced
 · rintro ⟨⟨h1,h2⟩,h3,h4,h5,h6⟩
   obtain ⟨e1,e2⟩:=formed_num h3
   obtain ⟨e3,e4⟩:=formed_num h4
   refine isFrac_of h1 h2 (q:=Rat.divInt (numOf b s) (numOf c t)) ?_
   obtain ⟨_,_,_,d4,d5⟩:=divInt_parts (numOf b s) (numOf c t) (by omega) 1 (by rw [if_neg (by omega),h6]; rfl)
   rw [Int.ediv_one] at d4 d5
   rw [fracV,d4,e1,e2]
   have hc:c=false:=by rw [← e3]; exact decide_eq_false (by omega)
   have hd:(Rat.divInt (numOf b s) (numOf c t)).den=(numOf c t).natAbs:=by omega
   rw [hd,e4,hc]
theorem rsign_w {w:World} {p:Bool} {s:ByteArray} {n:Int} (h:(Value.agg #[.bool p,.string s])=wholeV n) :
  Calls Tryz.prog 247 #[.agg #[.bool p,.string s]] w fun e w'=>e=.returned (.int .i64 n.sign)∧Below w.heap.size w w':=rsign_any p s n (whole_cells h).1 (whole_cells h).2
set_option maxRecDepth 100000 in
theorem rof_any {w:World} {n:Int} (hr : -9223372036854775808≤n∧n≤9223372036854775807) :
  Calls Tryz.prog 103 #[.int .i64 n] w fun e w'=>e=.returned (wholeV n)∧Below w.heap.size w w':=by
 have HR:=Lib.hid hr
 have HB:=Lib.hid (below_new w (.cells #[.bool false,.string ⟨#[]⟩] 23))
 have HC:=Lib.hid (BoxAt.new w #[.bool false,.string ⟨#[]⟩] 23)
 obtain ⟨k,hk⟩:∃ k,k=n.natAbs:=⟨_,rfl⟩
 have hkb:k≤9223372036854775808:=by omega
 obtain ⟨x,hx⟩:∃ x,x=k % 4294967296:=⟨_,rfl⟩
 obtain ⟨y,hy⟩:∃ y,y=k/4294967296:=⟨_,rfl⟩
 have hx32:x<4294967296:=by omega
 have hy32:y<4294967296:=by omega
 have hxi:(k:Int) % 4294967296=(x:Int):=by omega
 have hyi:(k:Int)/4294967296=(y:Int):=by omega
 have HS:Hid (sg (decide (n<0)) (val [x,y])=n):=by
  have:val [x,y]=k:=by simp [val]; omega
  rw [Hid,this,hk,sg_of]
 have HWW:=Lib.hid (words_two (w.alloc (.cells #[.bool false,.string ⟨#[]⟩] 23)) x y _ _ hx32 hy32 rfl rfl)
 have HBW:=Lib.hid (below_new (w.alloc (.cells #[.bool false,.string ⟨#[]⟩] 23)) (.cells #[.int .u32 (x:Int),.int .u32 (y:Int)] 278))
 have HC1:=Lib.hid (HC.out.on HBW.out)
 have HB1:=Lib.hid (HB.out.trans (HBW.out.mono HB.out.size))
 rw [size_alloc] at HWW
 by_cases h:n<0
 all_goals
  have hw1:IntKind.u64.wrap n=if n<0 then 18446744073709551616+n else n:=by simp [IntKind.wrap,IntKind.bits,IntKind.signed]; omega
 · rw [if_pos h] at hw1
   have hw2:IntKind.u64.wrap (-(18446744073709551616+n)) = -n:=by simp [IntKind.wrap,IntKind.bits,IntKind.signed]; omega
   have hnk : -n=(k:Int):=by omega
   rw [hnk] at hw2
   have hd:decide (n<0)=true:=by simpa using h
   rw [hd] at HS
   clear hr hk hnk hx hy
   go_enter Tryz.func103,Tryz.ntmps103
   go_wp2_with fail
   refine (made_any true HWW.out (by decide)).mono ?_
   rintro e w1 ⟨rfl,hb⟩
   rw [HS.out]
   obtain ⟨p,s,hps⟩:∃ p s,wholeV n=.agg #[.bool p,.string s]:=⟨_,_,rfl⟩
   have HPS:=Lib.hid hps
   rw [hps]
   have HC2:=Lib.hid (HC1.out.on hb)
   have HB2:=Lib.hid (HB1.out.trans (hb.mono HB1.out.size))
   have hp0:=HC2.out.cell 0 _ rfl
   have hp1:=HC2.out.cell 1 _ rfl
   have hf:=HC2.out.frozen
   clear hps hb
   go_wp2
   have hk:=(HC2.out.set 0 (.bool p)).set 1 (.string s)
   have k0:=hk.cell 0 _ rfl
   have k1:=hk.cell 1 _ rfl
   exact bodyPost_ret (v:=.agg #[.bool p,.string s]) (by simp [results,Tryz.results103,go_sem,k0,k1]) rfl ⟨by rw [HPS.out],(HB2.out.setCell (Nat.le_refl _) _).setCell (Nat.le_refl _) _⟩
 · rw [if_neg h] at hw1
   have hnk:n=(k:Int):=by omega
   have hd:decide (n<0)=false:=by simpa using h
   rw [hd] at HS
   have hw3:IntKind.u64.wrap n=(k:Int):=by rw [hw1]; exact hnk
   have HNK:=Lib.hid hnk
   clear hr hk hx hy hw1 hnk
   go_enter Tryz.func103,Tryz.ntmps103
   go_wp2_with fail
   refine (made_any false HWW.out (by decide)).mono ?_
   rintro e w1 ⟨rfl,hb⟩
   rw [HS.out]
   obtain ⟨p,s,hps⟩:∃ p s,wholeV n=.agg #[.bool p,.string s]:=⟨_,_,rfl⟩
   have HPS:=Lib.hid hps
   rw [hps]
   have HC2:=Lib.hid (HC1.out.on hb)
   have HB2:=Lib.hid (HB1.out.trans (hb.mono HB1.out.size))
   have hp0:=HC2.out.cell 0 _ rfl
   have hp1:=HC2.out.cell 1 _ rfl
   have hf:=HC2.out.frozen
   clear hps hb
   go_wp2
   have hk:=(HC2.out.set 0 (.bool p)).set 1 (.string s)
   have k0:=hk.cell 0 _ rfl
   have k1:=hk.cell 1 _ rfl
   exact bodyPost_ret (v:=.agg #[.bool p,.string s]) (by simp [results,Tryz.results103,go_sem,k0,k1]) rfl ⟨by rw [HPS.out],(HB2.out.setCell (Nat.le_refl _) _).setCell (Nat.le_refl _) _⟩
end Go.Proofs.YthkpghhoffihmaaGreatDoor
end
section
namespace Go.Proofs.YthkpghhoffihmaaGreatDoor
open Go.Proofs.YthkpghhoffihmaaGreatDoor.Y
open Go Go.RowKit
set_option maxRecDepth 100000
def ansB (q:Rat):Bool:=if Fit q then decide (q.num<0) else false
def ansS (q:Rat):ByteArray:=if Fit q then mag q.num.natAbs else ⟨#[]⟩
def ansD (q:Rat):ByteArray:=if Fit q then mag q.den else ⟨#[]⟩
theorem fit_maxLen {x:Rat} (h:Fit x):(mag x.num.natAbs).size≤maxLen∧(mag x.den).size≤maxLen:=⟨Nat.le_trans h.1 (by decide),Nat.le_trans h.2 (by decide)⟩
def rawV (b c:Bool) (s t:ByteArray):Value:=.agg #[.bool b,.string s,.bool c,.string t]
theorem fitF (x:Rat) (h:Fit x):IsFrac (rawV (decide (x.num<0)) false (mag x.num.natAbs) (mag x.den)):=⟨x,h,rfl⟩
theorem eq_false_of {r:Bool} {P:Prop} (h:r=true↔P) (k:¬ P):r=false:=by
 cases r
 · rfl
 · exact absurd (h.1 rfl) k
theorem iff_false_of {P:Prop} (k:¬ P):false=true↔P:=⟨fun h=>Bool.noConfusion h,fun h=>absurd h k⟩
theorem iff_true_of {P:Prop} (k:P):true=true↔P:=⟨fun _=>k,fun _=>rfl⟩
theorem may_w {w0:World} (b c:Bool) (s t:ByteArray) (hs:s.size≤maxLen) (ht:t.size≤maxLen) (r:Bool) (hr:r=true↔IsFrac (.agg #[.bool b,.string s,.bool c,.string t])) :
  Calls Tryz.prog 104 #[.agg #[.bool b,.string s,.bool c,.string t]] w0 fun e w'=>e=.returned (.bool r)∧Below w0.heap.size w0 w':=by
 refine (May_any b c s t hs ht).mono ?_
 rintro e w' ⟨r',rfl,hr',hb⟩
 refine ⟨?_,hb⟩
 rw [Bool.eq_iff_iff.2 (hr'.trans hr.symm)]
def eMay (b c:Bool) (s t:ByteArray) (hs:s.size≤maxLen) (ht:t.size≤maxLen) (r:Bool) (hr:r=true↔IsFrac (rawV b c s t)):Ev Tryz.prog:=.ret 104 Tryz.call104 _ _ (fun w=>may_w b c s t hs ht r hr)
def eMayF (x:Rat) (h:Fit x):Ev Tryz.prog:=eMay _ _ _ _ (fit_maxLen h).1 (fit_maxLen h).2 true (iff_true_of (fitF x h))
def fC (x:Rat):List Lf:=[.b (.v (.bool (decide (x.num<0)))),.b (.v (.string (mag x.num.natAbs))),.b (.v (.bool false)),.b (.v (.string (mag x.den)))]
section
variable {n m:Int}
theorem rgcd_w {w0:World} {p q:Bool} {s t:ByteArray} {n m:Int} (h:(Value.agg #[.bool p,.string s])=wholeV n) (k:(Value.agg #[.bool q,.string t])=wholeV m) (h1:sz n≤1000000000) (h2:sz m≤1000000000) :
  Calls Tryz.prog 248 #[.agg #[.bool p,.string s],.agg #[.bool q,.string t]] w0 fun e w'=>e=.returned (wholeV ((Nat.gcd n.natAbs m.natAbs:Nat):Int))∧Below w0.heap.size w0 w':=by
 refine (rgcd_any p q s t n.natAbs m.natAbs (whole_cells h).2 (whole_cells k).2 (sz_of h h1) (sz_of k h2)).mono ?_
 rintro e w' ⟨g,rfl,hg,hb⟩
 refine ⟨?_,hb⟩
 unfold wholeV
 rw [hg.out,Int.natAbs_natCast,show decide (((Nat.gcd n.natAbs m.natAbs:Nat):Int)<0)=false from decide_eq_false (by omega)]
def eWSign {k:Int} (hk:n.sign=k):Ev Tryz.prog:=.ret 247 Tryz.call247 #[wholeV n] (.int .i64 k) (fun w=>by rw [← hk]; exact rsign_w rfl)
def eWGcd (hn:sz n≤1000000000) (hm:sz m≤1000000000):Ev Tryz.prog:=.ret 248 Tryz.call248 #[wholeV n,wholeV m] (wholeV ((Nat.gcd n.natAbs m.natAbs:Nat):Int)) (fun w=>rgcd_w rfl rfl hn hm)
def eWOf (n:Int) (hr : -9223372036854775808≤n∧n≤9223372036854775807):Ev Tryz.prog:=.ret 103 Tryz.call103 #[.int .i64 n] (wholeV n) (fun w=>rof_any hr)
def eWFormed (p:Bool) (s:ByteArray) (r:Bool) (hr:r=true↔FormedB p s):Ev Tryz.prog:=.ret 246 Tryz.call246 #[.agg #[.bool p,.string s]] (.bool r) (fun w=>rformed_any p s r hr)
end
theorem run_eqF_cons {P : Program} {w : World} {d : Nat} {xs ys : Array Value} {f : Field} {fs : List Field} {a b : Value} {r : Bool} (hn : decide (f.name = "_") = false) (ha : (part f.type xs f.offset).run P w = .ok a w) (hb : (part f.type ys f.offset).run P w = .ok b w)
  (hr:(Op.equalIn d f.type a b).run P w=.ok r w) {s:Bool} (hs:(Op.eqFields d xs ys fs).run P w=.ok s w):(Op.eqFields d xs ys (f::fs)).run P w=.ok (r&&s) w:=by
 unfold Op.eqFields
 rw [if_pos (of_decide_eq_false hn)]
 simp only [Sem.run_bind,ha,hb,hr,Result.andThen_ok]
 cases r
 · rfl
 · simpa using hs
theorem eqW {w:World} (d:Nat) (b b':Bool) (s s':ByteArray):(Op.equalIn (d+2) 23 (.agg #[.bool b,.string s]) (.agg #[.bool b',.string s'])).run Tryz.prog w=.ok ((b==b')&&((s.toList==s'.toList)&&true)) w:=by
 rw [run_equalIn_agg _ _ _ _ _ (by kernel_rfl) (by kernel_rfl)]
 refine run_eqF_cons (a:=.bool b) (b:=.bool b') (by kernel_rfl) (by kernel_rfl) (by kernel_rfl) (run_equalIn_bool' _ _ _ _ _ (by kernel_rfl)) ?_
 refine run_eqF_cons (a:=.string s) (b:=.string s') (by kernel_rfl) (by kernel_rfl) (by kernel_rfl) (run_equalIn_string _ _ _ _ _ (by kernel_rfl)) ?_
 kernel_rfl
def weq (b b':Bool) (s s':ByteArray):Bool:=(b==b')&&((s.toList==s'.toList)&&true)
def feq (b b':Bool) (s s':ByteArray) (c c':Bool) (t t':ByteArray):Bool:=weq b b' s s'&&(weq c c' t t'&&true)
theorem eqF {w:World} (d:Nat) (b b' c c':Bool) (s s' t t':ByteArray):(Op.equalIn (d+3) 25 (.agg #[.bool b,.string s,.bool c,.string t]) (.agg #[.bool b',.string s',.bool c',.string t'])).run Tryz.prog w=.ok (feq b b' s s' c c' t t') w:=by
 rw [run_equalIn_agg _ _ _ _ _ (by kernel_rfl) (by kernel_rfl)]
 refine run_eqF_cons (a:=.agg #[.bool b,.string s]) (b:=.agg #[.bool b',.string s']) (by kernel_rfl) (by kernel_rfl) (by kernel_rfl) (eqW d _ _ _ _) ?_
 refine run_eqF_cons (a:=.agg #[.bool c,.string t]) (b:=.agg #[.bool c',.string t']) (by kernel_rfl) (by kernel_rfl) (by kernel_rfl) (eqW d _ _ _ _) ?_
 kernel_rfl
structure R4 where
 b:Bool
 s:ByteArray
 c:Bool
 t:ByteArray
def R4.V (x:R4):List Value:=[.bool x.b,.string x.s,.bool x.c,.string x.t]
def R4.eq (x y:R4):Bool:=feq x.b y.b x.s y.s x.c y.c x.t y.t
theorem weq_iff {b b':Bool} {s s':ByteArray}:weq b b' s s'=true↔b=b'∧s=s':=by
 unfold weq
 rw [Bool.and_true,Bool.and_eq_true,beq_iff_eq,beq_iff_eq,toList_inj]
theorem R4.eq_iff {x y:R4}:x.eq y=true↔x=y:=by
 unfold R4.eq feq
 rw [Bool.and_true,Bool.and_eq_true,weq_iff,weq_iff]
 obtain ⟨b,s,c,t⟩:=x
 obtain ⟨b',s',c',t'⟩:=y
 constructor
 · rintro ⟨⟨rfl,rfl⟩,rfl,rfl⟩; rfl
 · intro h; injection h with h1 h2 h3 h4; exact ⟨⟨h1,h2⟩,h3,h4⟩
theorem eqG {w:World} (d:Nat) (x y x' y':R4):(Op.equalIn (d+4) 27 (.agg #[.bool x.b,.string x.s,.bool x.c,.string x.t,.bool y.b,.string y.s,.bool y.c,.string y.t]) (.agg #[.bool x'.b,.string x'.s,.bool x'.c,.string x'.t,.bool y'.b,.string y'.s,.bool y'.c,.string y'.t])).run Tryz.prog w=.ok (x.eq x'&&(y.eq y'&&true)) w:=by
 rw [run_equalIn_agg _ _ _ _ _ (by kernel_rfl) (by kernel_rfl)]
 refine run_eqF_cons (a:=.agg #[.bool x.b,.string x.s,.bool x.c,.string x.t]) (b:=.agg #[.bool x'.b,.string x'.s,.bool x'.c,.string x'.t]) (by kernel_rfl) (by kernel_rfl) (by kernel_rfl) (eqF d _ _ _ _ _ _ _ _) ?_
 refine run_eqF_cons (a:=.agg #[.bool y.b,.string y.s,.bool y.c,.string y.t]) (b:=.agg #[.bool y'.b,.string y'.s,.bool y'.c,.string y'.t]) (by kernel_rfl) (by kernel_rfl) (by kernel_rfl) (eqF d _ _ _ _ _ _ _ _) ?_
 kernel_rfl
theorem exec_eql {w:World} {t u:TypeId} {xs ys:Array Value} {r:Bool} (hg:Tryz.prog.eqGuardType Tryz.prog.depth t=false) (h:(Op.equalIn 10000 t (.agg xs) (.agg ys)).run Tryz.prog w=.ok r w) (x y:Operand) (ρ:Operand→Value) (o:Oper) (ho:o.op=.binOp .eql t x y u) (hx:ρ x=.agg xs) (hy:ρ y=.agg ys):(execOp ρ o).run Tryz.prog w=.ok (.value (.bool r)) w:=by
 unfold execOp
 rw [ho]
 simp only [hx,hy,Sem.run_bind,run_eqGuard_agg w _ _ _ _ _ _ hg,run_eql_struct,h,Result.andThen_ok]
 rfl
theorem exec_neq {w:World} {t u:TypeId} {xs ys:Array Value} {r:Bool} (hg:Tryz.prog.eqGuardType Tryz.prog.depth t=false) (h:(Op.equalIn 10000 t (.agg xs) (.agg ys)).run Tryz.prog w=.ok r w) (x y:Operand) (ρ:Operand→Value) (o:Oper) (ho:o.op=.binOp .neq t x y u) (hx:ρ x=.agg xs) (hy:ρ y=.agg ys):(execOp ρ o).run Tryz.prog w=.ok (.value (.bool (!r))) w:=by
 unfold execOp
 rw [ho]
 simp only [hx,hy,Sem.run_bind,run_eqGuard_agg w _ _ _ _ _ _ hg,run_neq_struct,h,Result.andThen_ok]
 rfl
def eqEv (t:TypeId) (xs ys:Array Value) (r:Bool) (hg:Tryz.prog.eqGuardType Tryz.prog.depth t=false) (h:∀ w,(Op.equalIn 10000 t (.agg xs) (.agg ys)).run Tryz.prog w=.ok r w):Ev Tryz.prog :=
 .dyn (fun o _ _=>match o.op with
  | .binOp .eql t' _ _ _=>Nat.beq t' t
  | .binOp .neq t' _ _ _=>Nat.beq t' t
  | _=>false) fun o _ _=>match o.op with
  | .binOp .eql _ a b u=>.gen (o.dst.getD 0) (.binOp .eql t a b u) [.agg xs,.agg ys] (.bool r) (fun ρ o w ho hx=>by
    simp only [Op.operands,List.map_cons,List.map_nil,List.cons.injEq] at hx
    exact exec_eql hg (h w) a b ρ o ho hx.1 hx.2.1)
  | .binOp .neq _ a b u=>.gen (o.dst.getD 0) (.binOp .neq t a b u) [.agg xs,.agg ys] (.bool (!r)) (fun ρ o w ho hx=>by
    simp only [Op.operands,List.map_cons,List.map_nil,List.cons.injEq] at hx
    exact exec_neq hg (h w) a b ρ o ho hx.1 hx.2.1)
  | _=>.eqv 0 undef undef rfl
def eqEvW (b b':Bool) (s s':ByteArray) (r:Bool) (h:weq b b' s s'=r):Ev Tryz.prog :=
 eqEv 23 #[.bool b,.string s] #[.bool b',.string s'] r (by kernel_rfl) (fun w=>by rw [← h]; exact eqW 9998 ..)
def eqEvG (x y x' y':R4) (r:Bool) (h:(x.eq x'&&(y.eq y'&&true))=r):Ev Tryz.prog :=
 eqEv 27 #[.bool x.b,.string x.s,.bool x.c,.string x.t,.bool y.b,.string y.s,.bool y.c,.string y.t] #[.bool x'.b,.string x'.s,.bool x'.c,.string x'.t,.bool y'.b,.string y'.s,.bool y'.c,.string y'.t] r (by kernel_rfl) (fun w=>by rw [← h]; exact eqG 9996 ..)
def Y.Spec.conv {P:Program} (S:Y.Spec P) (res:SV) (h:S.res=res):Y.Spec P:=⟨S.f,S.en,S.args,S.obs,res,S.news,fun β w hh=>h▸S.ok β w hh,h▸S.closed⟩
section
variable {x y:Rat}
def sR3Sign {k:Int} (hk:x.num.sign=k):Y.Spec Tryz.prog :=
 Y.Spec.auto Tryz.call119 [.one (.a (fC x))] [] (.one (.c (.b (.v (.int .i64 k))))) [] [eWSign hk] [] 400 Tryz.func119 hmA (by kernel_rfl) (fun β=>by kernel_rfl)
end
theorem divInt_one (n:Int):(Rat.divInt n 1).num=n∧(Rat.divInt n 1).den=1:=by
 obtain ⟨_,_,_,h4,h5⟩:=divInt_parts n 1 (by decide) 1 (by rw [if_neg (by decide),show (1:Int).natAbs=1 from rfl,Nat.gcd_one_right]; rfl)
 rw [Int.ediv_one] at h4 h5
 exact ⟨h4,by omega⟩
theorem fC_int (n:Int):fC (Rat.divInt n 1)=[.b (.v (.bool (decide (n<0)))),.b (.v (.string (mag n.natAbs))),.b (.v (.bool false)),.b (.v (.string (mag 1)))]:=by
 unfold fC
 rw [(divInt_one n).1,(divInt_one n).2]
def sR3Int (n:Int) (hr : -9223372036854775808≤n∧n≤9223372036854775807):Y.Spec Tryz.prog :=
 Y.Spec.conv (Y.Spec.auto Tryz.call32 [.one (.c (.b (.v (.int .i64 n))))] [] (.one (.a [.b (.v (.bool (decide (n<0)))),.b (.v (.string (mag n.natAbs))),.b (.v (.bool false)),.b (.v (.string (mag 1)))])) []
  [eWOf n hr,eWOf 1 (by decide)] [] 400 Tryz.func32 hmA (by kernel_rfl) (fun β=>by kernel_rfl)) (.one (.a (fC (Rat.divInt n 1)))) (congrArg (fun l=>SV.one (.a l)) (fC_int n).symm)
def eFFits (b c:Bool) (s t:ByteArray) (r:Bool) (hr:r=true↔s.size≤1024∧t.size≤1024):Ev Tryz.prog:=.ret 111 Tryz.call111 #[rawV b c s t] (.bool r) (fun w=>(r3fits_any b c s t).mono fun e w' ⟨r',he,hr',hb⟩=>⟨by rw [he,Bool.eq_iff_iff.2 (hr'.trans hr.symm)],hb⟩)
def FracFormed (b c:Bool) (s t:ByteArray):Prop:=FormedB b s∧FormedB c t∧0<numOf c t∧Nat.gcd (numOf b s).natAbs (numOf c t).natAbs=1
theorem formed_cells {p:Bool} {s:ByteArray} (h:FormedB p s) {k:Nat} (hk:s.size≤k):∃ n:Int,p=decide (n<0)∧s=mag n.natAbs∧sz n≤k∧numOf p s=n:=by
 obtain ⟨h1,h2⟩:=formed_num h
 refine ⟨numOf p s,h1.symm,h2.symm,?_,rfl⟩
 unfold sz
 rw [h2]
 exact hk
theorem sign_pos {n:Int} {r:Bool} (h:decide (0<n)=r):Value.bool (decide (n.sign≤0))=.bool (!r):=by
 rw [← h]
 by_cases k:0<n
 · rw [decide_eq_true k,Int.sign_eq_one_of_pos k]; rfl
 · have:n.sign≤0:=by
    rcases Int.lt_trichotomy n 0 with a | a | a
    · rw [Int.sign_eq_neg_one_of_neg a]; decide
    · rw [a]; decide
    · exact absurd a k
   rw [decide_eq_false k,decide_eq_true this]; rfl
theorem formed_ok (b c:Bool) (s t:ByteArray) (h1:s.size≤1000000000) (h2:t.size≤1000000000) (r:Bool) (hr:r=true↔FracFormed b c s t) (β:Env) (w:World) (hh:∀ (k:Nat) (t:Thing),([]:List Thing)[k]?=some t→t.D w (β k)) :
  Calls Tryz.prog 112 (([SV.one (.a [.b (.v (.bool b)),.b (.v (.string s)),.b (.v (.bool c)),.b (.v (.string t))])]:List SV).map (SV.den β)).toArray w fun e w'=>∃ xs:List Pl,freshS β w ([]:List Thing).length xs∧e=.returned ((SV.one (.c (.b (.v (.bool r))))).den (extE β ([]:List Thing).length xs))∧newHold w' [] xs∧Below w.heap.size w w':=by
 by_cases q1:FormedB b s
 rotate_left
 · obtain rfl:=eq_false_of hr fun h=>q1 h.1
   exact spec_auto (evs:=[eWFormed b s false (iff_false_of q1)]) (Ns:=[]) (m:=400) Tryz.func112 hmA (fun β=>by kernel_rfl) (by kernel_rfl) β w hh
 by_cases q2:FormedB c t
 rotate_left
 · obtain rfl:=eq_false_of hr fun h=>q2 h.2.1
   exact spec_auto (evs:=[eWFormed b s true (iff_true_of q1),eWFormed c t false (iff_false_of q2)]) (Ns:=[]) (m:=400) Tryz.func112 hmA (fun β=>by kernel_rfl) (by kernel_rfl) β w hh
 obtain ⟨n,rfl,rfl,e1,e2⟩:=formed_cells q1 h1
 obtain ⟨m,rfl,rfl,e3,e4⟩:=formed_cells q2 h2
 unfold FracFormed at hr
 rw [e2,e4] at hr
 cases q3:decide (0<m) with
 | false =>
  obtain rfl:=eq_false_of hr fun h=>of_decide_eq_false q3 h.2.2.1
  exact spec_auto (evs:=[eWFormed _ _ true (iff_true_of q1),eWFormed _ _ true (iff_true_of q2),eWSign (n:=m) rfl,.eqv 17 (.bool (decide (m.sign≤0))) (.bool true) (sign_pos q3)]) (Ns:=[]) (m:=400) Tryz.func112 hmA (fun β=>by kernel_rfl) (by kernel_rfl) β w hh
 | true =>
  have hb:((decide (((Nat.gcd n.natAbs m.natAbs:Nat):Int)<0)==decide ((1:Int)<0))&&(((mag (((Nat.gcd n.natAbs m.natAbs:Nat):Int)).natAbs).toList==(mag (1:Int).natAbs).toList)&&true))=r:=by
   rw [Bool.eq_iff_iff,hr]
   show weq _ _ _ _=true↔_
   rw [weq_iff]
   constructor
   · rintro ⟨_,h⟩
     have:=mag_inj h
     rw [Int.natAbs_natCast] at this
     exact ⟨q1,q2,of_decide_eq_true q3,this⟩
   · rintro ⟨_,_,_,h⟩
     rw [h]
     exact ⟨rfl,rfl⟩
  exact spec_auto (evs:=[eWFormed _ _ true (iff_true_of q1),eWFormed _ _ true (iff_true_of q2),eWSign (n:=m) rfl,.eqv 17 (.bool (decide (m.sign≤0))) (.bool false) (sign_pos q3),eWGcd (Nat.le_trans e1 (by decide)) (Nat.le_trans e3 (by decide)),eWOf 1 (by decide),
   eqEvW _ _ _ _ r hb]) (Ns:=[]) (m:=400) Tryz.func112 hmA (fun β=>by kernel_rfl) (by kernel_rfl) β w hh
def sR3Formed (b c:Bool) (s t:ByteArray) (h1:s.size≤1000000000) (h2:t.size≤1000000000) (r:Bool) (hr:r=true↔FracFormed b c s t):Y.Spec Tryz.prog :=
 ⟨112,Tryz.call112,[.one (.a [.b (.v (.bool b)),.b (.v (.string s)),.b (.v (.bool c)),.b (.v (.string t))])],[],.one (.c (.b (.v (.bool r)))),[],formed_ok b c s t h1 h2 r hr,by kernel_rfl⟩
theorem may3_ok (b c:Bool) (s t:ByteArray) (r:Bool) (hr:r=true↔IsFrac (rawV b c s t)) (β:Env) (w:World) (hh:∀ (k:Nat) (t:Thing),([]:List Thing)[k]?=some t→t.D w (β k)) :
  Calls Tryz.prog 24 (([SV.one (.a [.b (.v (.bool b)),.b (.v (.string s)),.b (.v (.bool c)),.b (.v (.string t))])]:List SV).map (SV.den β)).toArray w fun e w'=>∃ xs:List Pl,freshS β w ([]:List Thing).length xs∧e=.returned ((SV.one (.c (.b (.v (.bool r))))).den (extE β ([]:List Thing).length xs))∧newHold w' [] xs∧Below w.heap.size w w':=by
 unfold rawV at hr
 rw [isFrac_doc] at hr
 by_cases f1:s.size≤1024∧t.size≤1024
 · have hr2:r=true↔FracFormed b c s t:=hr.trans ⟨fun h=>h.2,fun h=>⟨f1,h⟩⟩
   cases r
   · exact spec_auto (evs:=[eFFits b c s t true (iff_true_of f1),(sR3Formed b c s t (Nat.le_trans f1.1 (by decide)) (Nat.le_trans f1.2 (by decide)) false hr2).e]) (Ns:=[]) (m:=400) Tryz.func24 hmA (fun β=>by kernel_rfl) (by kernel_rfl) β w hh
   · exact spec_auto (evs:=[eFFits b c s t true (iff_true_of f1),(sR3Formed b c s t (Nat.le_trans f1.1 (by decide)) (Nat.le_trans f1.2 (by decide)) true hr2).e]) (Ns:=[]) (m:=400) Tryz.func24 hmA (fun β=>by kernel_rfl) (by kernel_rfl) β w hh
 · obtain rfl:=eq_false_of hr fun h=>f1 h.1
   exact spec_auto (evs:=[eFFits b c s t false (iff_false_of f1)]) (Ns:=[]) (m:=400) Tryz.func24 hmA (fun β=>by kernel_rfl) (by kernel_rfl) β w hh
def sR3May (b c:Bool) (s t:ByteArray) (r:Bool) (hr:r=true↔IsFrac (rawV b c s t)):Y.Spec Tryz.prog :=
 ⟨24,Tryz.call24,[.one (.a [.b (.v (.bool b)),.b (.v (.string s)),.b (.v (.bool c)),.b (.v (.string t))])],[],.one (.c (.b (.v (.bool r)))),[],may3_ok b c s t r hr,by kernel_rfl⟩
theorem sz_lit (a b:Int) (ha:a.natAbs<18446744073709551616) (hb:b.natAbs<18446744073709551616) (h0:b≠0):Sz 8 (Rat.divInt a b) :=
 sz_divInt h0 (sz_le.2 (Nat.lt_of_lt_of_le ha (by decide))) (sz_le.2 (Nat.lt_of_lt_of_le hb (by decide)))
theorem sign_zero (x:Rat):(Value.bool (x.num.sign==0))=.bool (decide (x=0)):=by
 congr 1
 rw [Bool.eq_iff_iff,beq_iff_eq,decide_eq_true_iff,Int.sign_eq_zero_iff_zero,Rat.num_eq_zero]
theorem sign_lit {x:Rat} {b:Bool} (h:decide (x=0)=b):(Value.bool (x.num.sign==0))=.bool b:=by rw [sign_zero,h]
theorem exformed_any {w:World} (p:Bool) (s:ByteArray) (r:Bool) (hr:r=true↔FormedB p s) :
  Calls Tryz.prog 264 #[.agg #[.bool p,.string s]] w fun e w'=>e=.returned (.bool r)∧Below w.heap.size w w':=by
 have HB:=Lib.hid (below_new w (.cells #[.bool p,.string s] 23))
 have HR:=Lib.hid hr
 clear hr
 by_cases h0:s.size=0
 · obtain rfl:=empty_data h0
   have HQ:Hid (r=!p):=by
    have h1:=HR.out
    unfold FormedB at h1
    cases p<;>cases r<;>simp_all [Hid]
   clear h0
   go_enter Tryz.func264,Tryz.ntmps264
   go_wp2
   go_ret
   exact ⟨by rw [HQ.out]; rfl,HB.out⟩
 · obtain ⟨hE,hE2⟩:=toList_some h0
   have hp:0<s.size:=by omega
   obtain ⟨t,ht⟩:∃ t,t=head s:=⟨_,rfl⟩
   have ht2:s[0].toNat=t:=by rw [ht]; exact head_eq hp
   have HQ:Hid (r=true↔t≠0):=by
    have h1:=HR.out
    unfold FormedB at h1
    rw [← ht] at h1
    exact ⟨fun h=>(h1.1 h).elim (fun k=>absurd k.1 h0) (fun k=>k.2),fun h=>h1.2 (.inr ⟨h0,h⟩)⟩
   clear ht
   by_cases hz:t=0
   · subst hz
     go_enter Tryz.func264,Tryz.ntmps264
     go_wp2
     go_ret
     refine ⟨?_,HB.out⟩
     cases r
     · rfl
     · exact absurd rfl (HQ.out.1 rfl)
   · have hz1:((t:Int)==0)=false:=by rw [beq_eq_false_iff_ne]; omega
     have hz2:((t:Int) != 0)=true:=by rw [bne_iff_ne]; omega
     go_enter Tryz.func264,Tryz.ntmps264
     go_wp2
     go_ret
     refine ⟨?_,HB.out⟩
     rw [HQ.out.2 hz]
     rfl
theorem exwhole_any {w:World} (b:Bool) (s:ByteArray) (hs:s.size≤4294967296) :
  Calls Tryz.prog 265 #[.agg #[.bool b,.string s]] w fun e w'=>∃ g,e=.returned (.pointer (some ⟨g,0,none⟩))∧w.heap.size≤g∧IntAt w' g 0 (numOf b s)∧Below w.heap.size w w':=by
 have hcv:=fun (w:World)=>run_bytes_of_string (P:=Tryz.prog) w 9 57 5 s Tryz.underlying9 Tryz.underlying57 Tryz.underlying5
 have HS:=Lib.hid hs
 have HB:=Lib.hid (below_new w (.cells #[.bool b,.string s] 23))
 have HX:=Lib.hid (BoxAt.new w #[.bool b,.string s] 23)
 clear hs
 go_enter Tryz.func265,Tryz.ntmps265
 go_wp2_with fail
 generalize hW2:(w.alloc (.cells #[.bool b,.string s] 23)).alloc (.cells #[.bool false,.slice none 0 0] 177)=W2
 have hi:IntAt W2 (w.heap.size+1) 0 0:=by rw [← hW2]; exact IntAt.new_at (size_alloc _ _).symm
 have hx:BoxAt W2 w.heap.size #[.bool b,.string s] 23:=by rw [← hW2]; exact HX.out.on (below_new _ _)
 have hb:Below w.heap.size w W2:=by rw [← hW2]; exact HB.out.trans ((below_new _ _).mono (by simp))
 have hsz:w.heap.size+1+1=W2.heap.size:=by rw [← hW2]; simp
 have hby:=byt_row (W:=W2) s (grownCap W2 s.size 0 5) (grownCap W2 s.size 0 5) (w.heap.size+1+1) ((bytesRow s (grownCap W2 s.size 0 5)).size,(bytesRow s (grownCap W2 s.size 0 5)).size+1) hsz
 have hbl:=below_row W2 (bytesRow s (grownCap W2 s.size 0 5)) 5 ((bytesRow s (grownCap W2 s.size 0 5)).size,(bytesRow s (grownCap W2 s.size 0 5)).size+1)
 clear hW2
 generalize grownCap W2 s.size 0 5=c at hby hbl ⊢
 generalize (W2.alloc (.cells (bytesRow s c) 5 ((bytesRow s c).size,(bytesRow s c).size+1))).drew=W3 at hby hbl ⊢
 refine (SetBytes_any (hi.on hbl).slot hby HS.out).mono ?_
 rintro e w1 ⟨rfl,h1,h2⟩
 rw [List.reverse_reverse] at h1
 have HX1:=Lib.hid (hx.on hbl)
 have HB1:=Lib.hid (hb.trans (hbl.mono hb.size))
 have HI:=Lib.hid h1
 have HT:=Lib.hid (h2.below (B:=w.heap.size+1) (Nat.le_refl _) (by have:=hbl.size; omega))
 have hc0:w1.cell? ⟨w.heap.size,0,none⟩=some (.bool b):=by rw [HT.out.cell (by simp)]; exact HX1.out.cell 0 _ rfl
 have hc1:w1.cell? ⟨w.heap.size,1,none⟩=some (.string s):=by rw [HT.out.cell (by simp)]; exact HX1.out.cell 1 _ rfl
 have HBB:=Lib.hid (HB1.out.trans (HT.out.mono (by omega)))
 clear h1 h2 hi hx hb hsz hby hbl
 cases b
 · go_wp2
   go_ret
   refine ⟨_,rfl,by omega,?_,HBB.out⟩
   have:=HI.out
   simpa [numOf,sg,num] using this
 · go_wp2_with fail
   refine (neg_any HI.out.slot HI.out).mono ?_
   rintro e w2 ⟨rfl,h1,h2⟩
   have H1:=Lib.hid h1
   have H2:=Lib.hid (HBB.out.trans (h2.below (by omega) HBB.out.size))
   clear h1 h2 hc0 hc1
   go_wp2
   go_ret
   refine ⟨_,rfl,by omega,?_,H2.out⟩
   have:=H1.out
   simpa [numOf,sg,num] using this
theorem formedB_dec (b:Bool) (s:ByteArray):∃ r:Bool,r=true↔FormedB b s:=by
 by_cases h:FormedB b s
 · exact ⟨true,by simp [h]⟩
 · exact ⟨false,by simp [h]⟩
theorem eq_empty {t:ByteArray} {r:Bool} (h:decide (t.size=0)=r):Value.bool (t.toList==(⟨#[]⟩:ByteArray).toList)=.bool r:=by
 rw [← h]
 congr 1
 rw [Bool.eq_iff_iff,beq_iff_eq,decide_eq_true_iff,toList_inj]
 exact ⟨fun h=>by rw [h]; rfl,fun h=>empty_data h⟩
theorem len_gt {t:ByteArray} {r:Bool} (h:decide (1024<t.size)=r):Value.bool (decide ((1024:Int)<(t.size:Int)))=.bool r:=by
 rw [← h]
 congr 1
 rw [Bool.eq_iff_iff,decide_eq_true_iff,decide_eq_true_iff]
 omega
theorem cmp_ne {a b:Int} {r:Bool} (h:decide (a=b)=r):Value.bool (cmpI a b != 0)=.bool (!r):=by
 rw [← h]
 congr 1
 unfold cmpI
 by_cases h1:a<b
 · rw [if_pos h1]; simp; omega
 · by_cases h2:b<a
   · rw [if_neg h1,if_pos h2]; simp; omega
   · rw [if_neg h1,if_neg h2]; simp; omega
set_option maxRecDepth 100000 in
theorem Bytes_at {w:World} {b o:Nat} {n:Int} (hx:IntAt w b o n) (hn:Okn n) :
  Calls Tryz.prog 238 #[.pointer (some ⟨b,o,none⟩)] w fun e w'=>∃ g,e=.returned (.slice (some ⟨g,0,none⟩) (led n.natAbs).length (led n.natAbs).length)∧w.heap.size≤g∧Byt w' (.slice (some ⟨g,0,none⟩) (led n.natAbs).length (led n.natAbs).length) (led n.natAbs).reverse∧Below w.heap.size w w':=by
 have HX:=Lib.hid hx
 have HO:=Lib.hid hn
 clear hx hn
 go_enter Tryz.func238,Tryz.ntmps238
 go_wp2_with fail
 refine (BitLen_any HX.out).mono ?_
 rintro e w1 ⟨L,rfl,hL,hLb,hb1⟩
 obtain ⟨N,hN⟩:∃ N,N=n.natAbs:=⟨_,rfl⟩
 have ho:=HO.out
 unfold Okn at ho
 rw [← hN] at hL ho
 obtain ⟨m,hm⟩:∃ m,m=(L+7)/8:=⟨_,rfl⟩
 have HM:Hid ((led N).length=m):=by rw [hm]; exact led_len_bits N L hL.1 hL.2
 have hmi:((L:Int)+7)/8=(m:Int):=by omega
 have hLL:=hL.le (by have:=dig_lt N; rw [p32] at this; exact this)
 have hmb:m≤17179869185:=by omega
 have HN:=Lib.hid hN
 have HB1:=Lib.hid hb1
 have HS1:Hid (w.heap.size≤w1.heap.size):=hb1.size
 clear hL hm hb1 hN hLL ho
 go_wp2_with (at_make; refine wpList_make_bytes rfl _ _ rfl _ _ _ _ m m rfl rfl (by omega) (by omega) (Nat.le_refl _) (by omega) ?_)
 intro w2 hbuf hb2 hz2
 have HB2:=Lib.hid hz2
 clear hz2
 go_wp2
 go_loopw [14] (fun i wr=>∃ (k:Nat),k≤m∧i=.int .i64 (k:Int)∧BBuf wr w1.heap.size (List.replicate (m-k) 0++(led N).reverse.drop (m-k))∧Below w1.heap.size w1 wr) (fun i _=>m-(intOf i).toNat)
 case atStart=>exact ⟨0,by omega,rfl,by rw [Nat.sub_zero,List.drop_of_length_le (by rw [List.length_reverse,HM.out]; exact Nat.le_refl _),List.append_nil]; exact hbuf,hb2⟩
 case round =>
  obtain ⟨k,hk,rfl,hbuf',hb'⟩:=hrel
  have hsz:=hb'.size
  have hblt:=hbuf'.lt
  clear hbuf hb2 HB2
  by_cases hk0:k<m
  · have hx:=HX.out.on (HB1.out.trans (hb'.mono HS1.out))
    obtain ⟨A,l,c,h0,h1,h2,hlt⟩:=hx.open_
    rw [← HN.out] at h2
    have hl:=h2.len.1
    obtain ⟨q,hq⟩:∃ q,q=k/4:=⟨_,rfl⟩
    obtain ⟨r,hr⟩:∃ r,r=k % 4:=⟨_,rfl⟩
    obtain ⟨s,hs⟩:∃ s,s=k % 4*8:=⟨_,rfl⟩
    have hql:q<l:=by
     have h3:=led_len_le N (4*l) (by have:=dig_lt N; rw [← hl,p32] at this; rw [p256]; rwa [show 8*(4*l)=32*l by omega])
     have:=HM.out
     omega
    obtain ⟨g,p,rfl,hall⟩:=h2.open_ (by omega)
    have hc:=hall q hql
    obtain ⟨x,hx'⟩:∃ x,x=N/4294967296^q % 4294967296:=⟨_,rfl⟩
    have hx32:x<4294967296:=by rw [hx']; exact Nat.mod_lt _ (by decide)
    replace hc:wr.cell? ⟨g,p+q,none⟩=some (.int .u32 (x:Int)):=by rw [hx',← dig_getD]; exact hc
    obtain ⟨y,hy⟩:∃ y,y=x/2^s:=⟨_,rfl⟩
    have hsh:(x:Int)/2^s=(y:Int):=by rw [hy,Int.natCast_ediv]; simp
    have hyb:y<4294967296:=by rw [hy]; exact Nat.lt_of_le_of_lt (Nat.div_le_self _ _) hx32
    have hbyte:y % 256=N/256^k % 256:=by rw [hy,hx',hq,hs]; exact byte_word N k
    have HBY:=Lib.hid hbyte
    have hqi:(k:Int)/4=(q:Int):=by omega
    have hri:(k:Int) % 4=(r:Int):=by omega
    have hsi:(r:Int)*8=(s:Int):=by omega
    have hs24:s≤24:=by omega
    have hmk2:((m:Int)-1-(k:Int))=((m-1-k:Nat):Int):=by omega
    have hc2:=hbuf'.cell (m-1-k) (by rw [List.length_append,List.length_replicate]; omega)
    have hf:=hbuf'.frozen (m-1-k)
    have HB:=Lib.hid (hbuf'.set (m-1-k) (y % 256) _ (Nat.mod_lt _ (by decide)) rfl)
    have HH:=Lib.hid hb'
    clear hall h0 h2 hx hl hx' hy hbyte hbuf' hb' hq hr hs
    go_wp2
    go_roundw
    case rel =>
     refine ⟨k+1,by omega,by go_num,?_,HH.out.setCell (Nat.le_refl _) _⟩
     have h:=HB.out
     have h2:=led_back N m k HM.out hk0
     rw [← HBY.out] at h2
     rw [h2] at h
     exact h
    case measure=>simp [intOf]; omega
  · obtain rfl:k=m:=by omega
    rw [Nat.sub_self,List.replicate_zero,List.nil_append,List.drop_zero] at hbuf'
    have HV:=Lib.hid (hbuf'.byt (n:=k) (cap:=k) (by rw [List.length_reverse]; exact HM.out))
    clear hbuf'
    go_wp2
    go_ret
    exact ⟨w1.heap.size,by rw [← HN.out,HM.out]; rfl,HS1.out,by rw [← HN.out,HM.out]; exact HV.out,HB1.out.trans (hb'.mono HS1.out)⟩
theorem led_gt {n:Int} {r:Bool} (h:decide (1024<sz n)=r):Value.bool (decide ((1024:Int)<((led n.natAbs).length:Int)))=.bool r:=by
 rw [← h]
 congr 1
 have:sz n=(led n.natAbs).length:=by unfold sz mag; rw [strN_size,List.length_reverse]
 rw [Bool.eq_iff_iff,decide_eq_true_iff,decide_eq_true_iff,this]
 omega
theorem sign_lt {x:Rat}:Value.bool (decide (x.num.sign<0))=.bool (decide (x.num<0)):=by
 congr 1
 rw [Bool.eq_iff_iff,decide_eq_true_iff,decide_eq_true_iff,Int.sign_neg_iff]
inductive Fp where
 | ok (x:Rat) (h:Fit x)
 | no (b c:Bool) (s t:ByteArray) (h:¬ IsFrac (rawV b c s t)) (hs:s.size≤maxLen) (ht:t.size≤maxLen)
theorem fp_all (b c:Bool) (s t:ByteArray):(∃ x,∃ _:Fit x,b=decide (x.num<0)∧s=mag x.num.natAbs∧c=false∧t=mag x.den)∨¬ IsFrac (rawV b c s t):=by
 by_cases h:IsFrac (rawV b c s t)
 · obtain ⟨x,hx,hv⟩:=h
   obtain ⟨h1,h2,h3,h4⟩:=agg4 hv
   exact .inl ⟨x,hx,h1,h2,h3,h4⟩
 · exact .inr h
def Fp.C:Fp→List Lf
 | .ok x _=>[.b (.v (.bool (decide (x.num<0)))),.b (.v (.string (mag x.num.natAbs))),.b (.v (.bool false)),.b (.v (.string (mag x.den)))]
 | .no b c s t _ _ _=>[.b (.v (.bool b)),.b (.v (.string s)),.b (.v (.bool c)),.b (.v (.string t))]
def Fp.B:Fp→Bool
 | .ok ..=>true
 | .no ..=>false
def FitG (z:GQ):Prop:=Fit z.re∧Fit z.im
open Classical in
noncomputable def gaK (z:GQ):Int:=if FitG z then 0 else 4
open Classical in
noncomputable def gaB (z:GQ):Bool:=if FitG z then decide (z.re.num<0) else false
open Classical in
noncomputable def gaS (z:GQ):ByteArray:=if FitG z then mag z.re.num.natAbs else ⟨#[]⟩
open Classical in
noncomputable def gaD (z:GQ):ByteArray:=if FitG z then mag z.re.den else ⟨#[]⟩
open Classical in
noncomputable def gaB' (z:GQ):Bool:=if FitG z then decide (z.im.num<0) else false
open Classical in
noncomputable def gaS' (z:GQ):ByteArray:=if FitG z then mag z.im.num.natAbs else ⟨#[]⟩
open Classical in
noncomputable def gaD' (z:GQ):ByteArray:=if FitG z then mag z.im.den else ⟨#[]⟩
noncomputable def gaC (z:GQ):List Lf:=[.b (.v (.bool (gaB z))),.b (.v (.string (gaS z))),.b (.v (.bool false)),.b (.v (.string (gaD z))),.b (.v (.bool (gaB' z))),.b (.v (.string (gaS' z))),.b (.v (.bool false)),.b (.v (.string (gaD' z)))]
def g0C:List Lf:=[.b (.v (.bool false)),.b (.v (.string ⟨#[]⟩)),.b (.v (.bool false)),.b (.v (.string ⟨#[]⟩)),.b (.v (.bool false)),.b (.v (.string ⟨#[]⟩)),.b (.v (.bool false)),.b (.v (.string ⟨#[]⟩))]
def gC (z:GQ):List Lf:=[.b (.v (.bool (decide (z.re.num<0)))),.b (.v (.string (mag z.re.num.natAbs))),.b (.v (.bool false)),.b (.v (.string (mag z.re.den))),.b (.v (.bool (decide (z.im.num<0)))),.b (.v (.string (mag z.im.num.natAbs))),.b (.v (.bool false)),.b (.v (.string (mag z.im.den)))]
theorem ga_fit {z:GQ} (h:FitG z):gaC z=gC z∧gaK z=0:=by
 unfold gaC gC gaB gaS gaD gaB' gaS' gaD' gaK
 constructor<;>simp only [if_pos h]
theorem ga_not {z:GQ} (h:¬ FitG z):gaC z=g0C∧gaK z=4:=by
 unfold gaC g0C gaB gaS gaD gaB' gaS' gaD' gaK
 constructor<;>simp only [if_neg h]
theorem ansK_ne {x:Rat} {r:Bool} (h:(ansK x != 0)=r):Value.bool (ansK x != 0)=.bool r:=by rw [h]
theorem ansF_fit {x:Rat} (h:Fit x):ansB x=decide (x.num<0)∧ansS x=mag x.num.natAbs∧ansD x=mag x.den∧ansK x=0:=⟨if_pos h,if_pos h,if_pos h,if_pos h⟩
inductive Pt where
 | inf
 | fin (z:GQ)
theorem sz_zero:Sz 1 (0:Rat):=⟨sz_le.2 (by decide),sz_le.2 (by decide)⟩
def g0:GQ:=⟨0,0⟩
structure MQ where
 a:GQ
 b:GQ
 c:GQ
 d:GQ
 t:Bool
def mdet (m:MQ):GQ:=gsub (gmul m.a m.d) (gmul m.b m.c)
abbrev KC:Nat:=100000
inductive Pp where
 | inf
 | fin (a b:Fp)
 | odd (x y:R4) (h:¬ (x=⟨false,⟨#[]⟩,false,⟨#[]⟩⟩∧y=⟨false,⟨#[]⟩,false,⟨#[]⟩⟩))
def R4.L (x:R4):List Lf:=[.b (.v (.bool x.b)),.b (.v (.string x.s)),.b (.v (.bool x.c)),.b (.v (.string x.t))]
def r40:R4:=⟨false,⟨#[]⟩,false,⟨#[]⟩⟩
end Go.Proofs.YthkpghhoffihmaaGreatDoor
end
