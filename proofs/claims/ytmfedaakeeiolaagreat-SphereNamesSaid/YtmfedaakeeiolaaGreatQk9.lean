/- EyA, RefA, RefC, RefG, Arh, Frm, RefH, RefI. -/
import Derived.BigQuiet
import Derived.Deep.QuietTactic
import Derived.Test.YtmfedaakeeiolaaGreatQk8
set_option linter.unnecessarySimpa false
set_option linter.unusedVariables false
set_option linter.unusedSimpArgs false
section
namespace Go.Proofs.YtmfedaakeeiolaaGreat.Y
open Go Go.RowKit
set_option maxRecDepth 100000
abbrev KE:Nat:=40000000
abbrev KM:Nat:=400000000
theorem sz_lit (a b:Int) (ha:a.natAbs<18446744073709551616) (hb:b.natAbs<18446744073709551616) (h0:b≠0):Sz 8 (Rat.divInt a b) :=
 sz_divInt h0 (sz_le.2 (Nat.lt_of_lt_of_le ha (by decide))) (sz_le.2 (Nat.lt_of_lt_of_le hb (by decide)))
theorem sign_zero (x:Rat):(Value.bool (x.num.sign==0))=.bool (decide (x=0)):=by
 congr 1
 rw [Bool.eq_iff_iff,beq_iff_eq,decide_eq_true_iff,Int.sign_eq_zero_iff_zero,Rat.num_eq_zero]
theorem sign_lit {x:Rat} {b:Bool} (h:decide (x=0)=b):(Value.bool (x.num.sign==0))=.bool b:=by rw [sign_zero,h]
theorem exrat_nil {w:World}:Calls Tryz.prog 278 #[.pointer none] w fun e w'=>∃ g,e=.returned (.pointer (some ⟨g,0,none⟩))∧w.heap.size≤g∧RatAt w' g 0 0∧Below w.heap.size w w':=by
 have HB:=Lib.hid (below_new w (.cells #[.bool false,.slice none 0 0,.bool false,.slice none 0 0] 213))
 have HR:=Lib.hid (RatAt.new w)
 go_enter Tryz.func278,Tryz.ntmps278
 go_wp2
 go_ret
 exact ⟨w.heap.size,rfl,Nat.le_refl _,HR.out,HB.out⟩
theorem exrat_same {w:World} {b:Nat}:Calls Tryz.prog 278 #[.pointer (some ⟨b,0,none⟩)] w fun e w'=>e=.returned (.pointer (some ⟨b,0,none⟩))∧Below w.heap.size w w':=by
 have HB:=Lib.hid (Below.refl w.heap.size w)
 go_enter Tryz.func278,Tryz.ntmps278
 go_wp2
 go_ret
 exact ⟨rfl,HB.out⟩
def sRat (x:Rat):Spec Tryz.prog :=
 ⟨278,Tryz.call278,[.one (.c (.b (.z 0 0)))],[ratM x],.one (.c (.b (.z 1 0))),[ratT x],fun β w hh=>by
  have h:OR0 x w (β 0):=hh 0 (ratM x) rfl
  show Calls _ _ #[.pointer ((β 0).v 0)] w _
  rcases h with ⟨hv,_,rfl⟩ | ⟨b,hb,hx⟩
  · rw [hv]
    refine exrat_nil.mono fun e w' ⟨g,he,h1,h2,h3⟩=>⟨[newPl g],fun x hx c hc=>?_,by rw [he]; rfl,⟨⟨g,(newPl_one g).at1,h2⟩,trivial⟩,h3⟩
    obtain rfl:=List.mem_singleton.1 hx
    rw [((newPl_one g).1 c).1 hc]
    exact .inl h1
  · rw [hb.1]
    refine exrat_same.mono fun e w' ⟨he,h3⟩=>⟨[newPl b],fun x hx c hc=>?_,by rw [he]; rfl,⟨⟨b,(newPl_one b).at1,hx.on h3⟩,trivial⟩,h3⟩
    obtain rfl:=List.mem_singleton.1 hx
    exact .inr ⟨0,Nat.zero_lt_one,(hb.2 c).2 (((newPl_one b).1 c).1 hc)⟩,by kernel_rfl⟩
abbrev nA (k:Nat):SC:=.a [.b (.z k 0),.b (.z (k+1) 0)]
abbrev nV (k:Nat):SV:=.one (nA k)
abbrev rV (k:Nat):SV:=.one (.c (.b (.z k 0)))
abbrev gM (z:GQ):List Thing:=[ratM z.re,ratM z.im]
abbrev gT (z:GQ):List Thing:=[ratT z.re,ratT z.im]
def sMulR {x:Rat} (hx:Sz KB x) {y:Rat} (hy:Sz KB y):Spec Tryz.prog :=
 Spec.auto Tryz.call281 [rV 0,rV 1] ([ratM x,ratM y]) (rV 2) ([ratT (x*y)])
  [mkR,(sRat (x)).e,(sRat (y)).e,fMul (hx.mono (by decide)) (hy.mono (by decide))]
  [] 2000 Tryz.func281 hmA (by kernel_rfl) (fun β=>by kernel_rfl)
def sSub {z:GQ} (hz:GSz KM z) {w:GQ} (hw:GSz KM w):Spec Tryz.prog :=
 Spec.auto Tryz.call270 [nV 0,nV 2] (gM z++gM w) (nV 4) (gT (gsub z w))
  [mkR,(sRat (z.re)).e,(sRat (w.re)).e,fSub (hz.1.mono (by decide)) (hw.1.mono (by decide)),mkR,(sRat (z.im)).e,(sRat (w.im)).e,fSub (hz.2.mono (by decide)) (hw.2.mono (by decide))]
  [(1,17)] 2000 Tryz.func270 hmA (by kernel_rfl) (fun β=>by kernel_rfl)
def sMul {z:GQ} (hz:GSz KM z) {w:GQ} (hw:GSz KM w):Spec Tryz.prog :=
 Spec.auto Tryz.call167 [nV 0,nV 2] (gM z++gM w) (nV 4) (gT (gmul z w))
  [mkR,(sMulR (hz.1.mono (by decide)) (hw.1.mono (by decide))).e,(sMulR (hz.2.mono (by decide)) (hw.2.mono (by decide))).e,fSub ((Sz.mul hz.1 hw.1).mono (by decide)) ((Sz.mul hz.2 hw.2).mono (by decide)),mkR,(sMulR (hz.1.mono (by decide)) (hw.2.mono (by decide))).e,(sMulR (hz.2.mono (by decide)) (hw.1.mono (by decide))).e,fAdd ((Sz.mul hz.1 hw.2).mono (by decide)) ((Sz.mul hz.2 hw.1).mono (by decide))]
  [(1,25)] 2000 Tryz.func167 hmA (by kernel_rfl) (fun β=>by kernel_rfl)
def sScale {z:GQ} (hz:GSz KB z) {x:Rat} (hx:Sz KB x):Spec Tryz.prog :=
 Spec.auto Tryz.call279 [nV 0,rV 2] (gM z++[ratM x]) (nV 3) (gT (gscale z x))
  [(sMulR (hz.1.mono (by decide)) (hx.mono (by decide))).e,(sMulR (hz.2.mono (by decide)) (hx.mono (by decide))).e]
  [(1,9)] 2000 Tryz.func279 hmA (by kernel_rfl) (fun β=>by kernel_rfl)
def sNorm {z:GQ} (hz:GSz KM z):Spec Tryz.prog :=
 Spec.auto Tryz.call280 [nV 0] (gM z) (rV 2) ([ratT (gnorm z)])
  [mkR,(sMulR (hz.1.mono (by decide)) (hz.1.mono (by decide))).e,(sMulR (hz.2.mono (by decide)) (hz.2.mono (by decide))).e,fAdd ((Sz.mul hz.1 hz.1).mono (by decide)) ((Sz.mul hz.2 hz.2).mono (by decide))]
  [] 2000 Tryz.func280 hmA (by kernel_rfl) (fun β=>by kernel_rfl)
def sNeg (z:GQ):Spec Tryz.prog :=
 Spec.auto Tryz.call210 [nV 0] (gM z) (nV 2) (gT (gneg z))
  [mkR,(sRat (z.re)).e,fNeg z.re,mkR,(sRat (z.im)).e,fNeg z.im]
  [(1,11)] 2000 Tryz.func210 hmA (by kernel_rfl) (fun β=>by kernel_rfl)
def sConj (z:GQ):Spec Tryz.prog :=
 Spec.auto Tryz.call170 [nV 0] (gM z) (nV 2) (gT (gconj z))
  [(sRat (z.re)).e,mkR,(sRat (z.im)).e,fNeg z.im]
  [(1,9)] 2000 Tryz.func170 hmA (by kernel_rfl) (fun β=>by kernel_rfl)
def sParts (z:GQ):Spec Tryz.prog :=
 Spec.auto Tryz.call169 [nV 0] (gM z) (.tup [.c (.b (.z 2 0)),.c (.b (.z 3 0))]) (gT z)
  [(sRat (z.re)).e,(sRat (z.im)).e]
  [] 2000 Tryz.func169 hmA (by kernel_rfl) (fun β=>by kernel_rfl)
theorem zero_ok {z:GQ} {b:Bool} (hb:gzero z=b) (β:Env) (w:World) (hh:∀ (k:Nat) (t:Thing),(gM z)[k]?=some t→t.D w (β k)) :
  Calls Tryz.prog 164 ([nV 0].map (SV.den β)).toArray w fun e w'=>∃ xs:List Pl,freshS β w 2 xs∧e=.returned ((SV.one (.c (.b (.v (.bool b))))).den (extE β 2 xs))∧newHold w' [] xs∧Below w.heap.size w w':=by
 cases h1:decide (z.re=0) with
 | false =>
  obtain rfl:b=false:=by rw [← hb]; unfold gzero; rw [h1]; rfl
  exact spec_auto (args:=[nV 0]) (obs:=gM z) (res:=.one (.c (.b (.v (.bool false))))) (news:=[]) (Ns:=[]) (m:=400) (evs:=[(sRat (z.re)).e,nSign (x:=z.re) rfl,.eqv 7 (.bool ((z.re).num.sign==0)) (.bool false) (sign_lit h1)]) Tryz.func164 hmA (fun β=>by kernel_rfl) (by kernel_rfl) β w hh
 | true =>
  cases h2:decide (z.im=0) with
  | false =>
   obtain rfl:b=false:=by rw [← hb]; unfold gzero; rw [h1,h2]; rfl
   exact spec_auto (args:=[nV 0]) (obs:=gM z) (res:=.one (.c (.b (.v (.bool false))))) (news:=[]) (Ns:=[]) (m:=400) (evs:=[(sRat (z.re)).e,nSign (x:=z.re) rfl,.eqv 7 (.bool ((z.re).num.sign==0)) (.bool true) (sign_lit h1),(sRat (z.im)).e,nSign (x:=z.im) rfl,.eqv 13 (.bool ((z.im).num.sign==0)) (.bool false) (sign_lit h2)]) Tryz.func164 hmA (fun β=>by kernel_rfl) (by kernel_rfl) β w hh
  | true =>
   obtain rfl:b=true:=by rw [← hb]; unfold gzero; rw [h1,h2]; rfl
   exact spec_auto (args:=[nV 0]) (obs:=gM z) (res:=.one (.c (.b (.v (.bool true))))) (news:=[]) (Ns:=[]) (m:=400) (evs:=[(sRat (z.re)).e,nSign (x:=z.re) rfl,.eqv 7 (.bool ((z.re).num.sign==0)) (.bool true) (sign_lit h1),(sRat (z.im)).e,nSign (x:=z.im) rfl,.eqv 13 (.bool ((z.im).num.sign==0)) (.bool true) (sign_lit h2)]) Tryz.func164 hmA (fun β=>by kernel_rfl) (by kernel_rfl) β w hh
def sZero {z:GQ} {b:Bool} (hb:gzero z=b):Spec Tryz.prog :=
 ⟨164,Tryz.call164,[nV 0],gM z,.one (.c (.b (.v (.bool b)))),[],zero_ok hb,by kernel_rfl⟩
def sDiv {z:GQ} (hz:GSz KM z) {w:GQ} (hw:GSz KM w) (h0:gzero w=false):Spec Tryz.prog :=
 Spec.auto Tryz.call166 [nV 0,nV 2] (gM z++gM w) (nV 4) (gT (gdiv z w))
  [(sConj w).e,(sMul (hz.mono (by decide)) ((GSz.conj hw).mono (by decide))).e,mkR,(sNorm (hw.mono (by decide))).e,fInv ((GSz.norm hw).mono (by decide)) (gnorm_ne h0),(sScale ((GSz.mul hz (GSz.conj hw)).mono (by decide)) ((Sz.inv (GSz.norm hw) (gnorm_ne h0)).mono (by decide))).e]
  [(1,9)] 2000 Tryz.func166 hmA (by kernel_rfl) (fun β=>by kernel_rfl)
end Go.Proofs.YtmfedaakeeiolaaGreat.Y
end
section
namespace Go.Proofs.YtmfedaakeeiolaaGreat
open Go.RowKit
set_option maxRecDepth 100000 in
theorem rcut_any {w:World} {A:Option Addr} {n cap:Nat} {xs:List Nat} (h:Words w (.slice A n cap) xs) :
  Calls Tryz.prog 330 #[.slice A n cap] w fun e w'=>e=.returned (.slice A (trim xs).length cap)∧w=w':=by
 have hl:=h.len.1
 have hb:=h.2.1
 have hcap:=h.len.2
 have HX:=Lib.hid h
 have HL:=Lib.hid hl
 have hbn:n≤17179869184:=by omega
 clear h hb hl
 go_enter Tryz.func330,Tryz.ntmps330
 go_wp2
 go_loop [3] (fun i=>∃ k:Nat,k≤n∧i=.int .i64 (k:Int)∧Hid (trim (xs.take k)=trim xs)) (fun i=>(intOf i).toNat)
 case atStart=>exact ⟨n,Nat.le_refl _,rfl,by rw [Hid,List.take_of_length_le (by rw [HL.out]; exact Nat.le_refl _)]⟩
 case round =>
  obtain ⟨k,hk,rfl,HT⟩:=hrel
  by_cases hk0:0<k
  · obtain ⟨b,o,rfl,hall⟩:=HX.out.open_ (by omega)
    have hc:=hall (k-1) (by have:=HL.out; omega)
    obtain ⟨x,hx⟩:∃ x,x=xs.getD (k-1) 0:=⟨_,rfl⟩
    replace hc:w.cell? ⟨b,o+(k-1),none⟩=some (.int .u32 (x:Int)):=by rw [hx]; exact hc
    have hk1:(k:Int)-1=((k-1:Nat):Int):=by omega
    have HXX:=Lib.hid hx
    have hkl:k-1<n:=by omega
    clear hall hx
    by_cases hx0:x=0
    · subst hx0
      have HT2:=Lib.hid (trim_take_pred xs k hk0 (by rw [← HL.out]; exact hk) HXX.out.symm)
      go_wp2
      go_round
      case rel=>exact ⟨k-1,by omega,by go_num,by rw [Hid,HT2.out]; exact HT.out⟩
      case measure=>simp [intOf]; omega
    · have hq:((x:Int)==0)=false:=by rw [beq_eq_false_iff_ne]; omega
      have HT2:=Lib.hid (trim_take_done xs k hk0 (by rw [← HL.out]; exact hk) (by rw [← HXX.out]; exact hx0))
      clear hx0
      go_wp2
      go_ret
      refine ⟨?_,rfl⟩
      rw [← HT.out,HT2.out]
      rfl
  · obtain rfl:k=0:=by omega
    have HT2:Hid ((trim xs).length=0):=by rw [Hid,← HT.out]; rfl
    go_wp2
    go_ret
    refine ⟨?_,rfl⟩
    rw [HT2.out]
    rfl
theorem made_byte {N k:Nat} (hk:0<k) (hN:N<256^k):(N/256^(k-1) % 256=0→N<256^(k-1))∧(N/256^(k-1) % 256≠0→(led N).length=k):=by
 obtain ⟨j,rfl⟩:∃ j,k=j+1:=⟨k-1,by omega⟩
 rw [Nat.add_sub_cancel]
 have hP:0<256^j:=Nat.pow_pos (by decide)
 have h1:N/256^j<256:=Nat.div_lt_of_lt_mul (by rw [Nat.pow_succ] at hN; exact hN)
 rw [Nat.mod_eq_of_lt h1]
 constructor
 · intro h
   rcases Nat.lt_or_ge N (256^j) with h2 | h2
   · exact h2
   · have:=Nat.div_pos h2 hP
     omega
 · intro h
   have h2:256^j≤N:=by
    rcases Nat.lt_or_ge N (256^j) with h2 | h2
    · exact absurd (Nat.div_eq_of_lt h2) h
    · exact h2
   have h3:=led_len_le N (j+1) hN
   have h4:=led_lt N
   have h5:=(Nat.pow_lt_pow_iff_right (by decide:1<256)).1 (Nat.lt_of_le_of_lt h2 h4)
   omega
theorem wholeV_sg {neg:Bool} {N:Nat} (h:N≠0):wholeV (sg neg N)=.agg #[.bool neg,.string (strN (led N).reverse)]:=by
 unfold wholeV sg
 cases neg
 · simp only [Bool.false_eq_true,if_false,Int.natAbs_natCast]
   rw [show decide ((N:Int)<0)=false by simp]
   rfl
 · simp only [if_true,Int.natAbs_neg,Int.natAbs_natCast]
   rw [show decide (-(N:Int)<0)=true by simp; omega]
   rfl
theorem wholeV_sg0 {neg:Bool}:wholeV (sg neg 0)=.agg #[.bool false,.string ⟨#[]⟩]:=by
 have h:(if neg=true then -((0:Nat):Int) else ((0:Nat):Int))=0:=by cases neg<;>rfl
 unfold wholeV sg
 rw [h]
 show Value.agg #[.bool false,.string (mag 0)]=_
 rw [mag_zero]
 rfl
set_option maxHeartbeats 1600000 in
set_option maxRecDepth 100000 in
theorem made_any {w:World} {A:Option Addr} {n cap:Nat} {xs:List Nat} (neg:Bool) (h:Words w (.slice A n cap) xs) (hn:n≤4294967296) :
  Calls Tryz.prog 247 #[.bool neg,.slice A n cap] w fun e w'=>e=.returned (wholeV (sg neg (val xs)))∧Below w.heap.size w w':=by
 have HB:=Lib.hid (below_new w (.cells #[.bool false,.string ⟨#[]⟩] 23))
 have HC:=Lib.hid (BoxAt.new w #[.bool false,.string ⟨#[]⟩] 23)
 have HX:=Lib.hid (h.below HB.out)
 have HZ:=Lib.hid (size_alloc w (.cells #[.bool false,.string ⟨#[]⟩] 23))
 obtain ⟨N,hN⟩:∃ N,N=val xs:=⟨_,rfl⟩
 have HNN:=Lib.hid hN
 have hdl:trim xs=dig N:=by rw [hN]; exact (dig_val xs h.1).symm
 have HD:=Lib.hid hdl
 obtain ⟨l,hl⟩:∃ l,l=(dig N).length:=⟨_,rfl⟩
 have HL:=Lib.hid hl
 have hln:l≤n:=by rw [hl,← hdl,h.len.1]; exact trim_length_le xs
 clear h hN hdl hl
 go_enter Tryz.func247,Tryz.ntmps247
 go_wp2_with fail
 refine (rcut_any HX.out).mono ?_
 rintro e w1 ⟨rfl,rfl⟩
 have hw:=HX.out.trim_
 rw [HD.out] at hw ⊢
 rw [← HL.out] at hw ⊢
 have HW:=Lib.hid hw
 clear hw
 by_cases hl0:l=0
 · subst hl0
   have hN0:N=0:=(dig_nil_iff N).1 (List.eq_nil_of_length_eq_zero HL.out.symm)
   have HN0:=Lib.hid hN0
   have hp0:=HC.out.cell 0 _ rfl
   have hp1:=HC.out.cell 1 _ rfl
   have hf:=HC.out.frozen
   clear hN0
   go_wp2
   have hk:=(HC.out.set 0 (.bool false)).set 1 (.string ⟨#[]⟩)
   have k0:=hk.cell 0 _ rfl
   have k1:=hk.cell 1 _ rfl
   exact bodyPost_ret (v:=.agg #[.bool false,.string ⟨#[]⟩]) (by simp [results,Tryz.results247,go_sem,k0,k1]) rfl ⟨by rw [← HNN.out,HN0.out,wholeV_sg0],by first | exact HB.out | exact (HB.out.setCell (Nat.le_refl _) _).setCell (Nat.le_refl _) _⟩
 · have hl00:((l:Int)==0)=false:=by rw [beq_eq_false_iff_ne]; omega
   have HNP:Hid (N≠0):=fun e=>hl0 (by rw [HL.out,e,dig_zero]; rfl)
   clear hl0
   go_wp2
   go_loop [5] (fun i=>∃ k:Nat,k≤4*l∧i=.int .i64 (k:Int)∧Hid (N<256^k)) (fun i=>(intOf i).toNat)
   case atStart =>
    refine ⟨4*l,Nat.le_refl _,by go_num,?_⟩
    have:=dig_lt N
    rw [← HL.out,p32] at this
    rw [Hid,p256,show 8*(4*l)=32*l by omega]
    exact this
   case round =>
    obtain ⟨k,hk,rfl,hNk⟩:=hrel
    have hk0:0<k:=by
     rcases Nat.eq_zero_or_pos k with h | h
     · subst h
       have h1:=hNk.out
       have h2:=HNP.out
       simp at h1
       exact absurd h1 h2
     · exact h
    obtain ⟨b,o,rfl,hall⟩:=HW.out.open_ (by omega)
    obtain ⟨q,hq⟩:∃ q,q=(k-1)/4:=⟨_,rfl⟩
    obtain ⟨r,hr⟩:∃ r,r=(k-1) % 4:=⟨_,rfl⟩
    obtain ⟨s,hs⟩:∃ s,s=(k-1) % 4*8:=⟨_,rfl⟩
    have hc:=hall q (by omega)
    obtain ⟨x,hx'⟩:∃ x,x=N/4294967296^q % 4294967296:=⟨_,rfl⟩
    have hx32:x<4294967296:=by rw [hx']; exact Nat.mod_lt _ (by decide)
    obtain ⟨y,hy⟩:∃ y,y=x/2^s:=⟨_,rfl⟩
    have hsh:(x:Int)/2^s=(y:Int):=by rw [hy,Int.natCast_ediv]; simp
    have hyb:y<4294967296:=by rw [hy]; exact Nat.lt_of_le_of_lt (Nat.div_le_self _ _) hx32
    have hbyte:y % 256=N/256^(k-1) % 256:=by rw [hy,hx',hq,hs]; exact byte_word N (k-1)
    have HMB:=Lib.hid (made_byte hk0 hNk.out)
    rw [← hbyte] at HMB
    have hki:(k:Int)-1=((k-1:Nat):Int):=by omega
    have hqi:((k-1:Nat):Int)/4=(q:Int):=by omega
    have hri:((k-1:Nat):Int) % 4=(r:Int):=by omega
    have hsi:8*(r:Int)=(s:Int):=by omega
    have hs24:s≤24:=by omega
    have hql:q<l:=by omega
    have hc2:(w.alloc (.cells #[.bool false,.string ⟨#[]⟩] 23)).cell? ⟨b,o+q,none⟩=some (.int .u32 (x:Int)):=by rw [hx',← dig_getD]; exact hc
    clear hall hc hx' hy hbyte hq hr hs
    by_cases hy0:y % 256=0
    · have hyi:(((y:Int) % 256)==0)=true:=by rw [beq_iff_eq]; omega
      have HK1:=Lib.hid (HMB.out.1 hy0)
      clear hy0
      go_wp2
      go_round
      case rel=>exact ⟨k-1,by omega,by go_num,HK1.out⟩
      case measure=>simp [intOf]; omega
    · have hyi:(((y:Int) % 256)==0)=false:=by rw [beq_eq_false_iff_ne]; omega
      have HM:=Lib.hid (HMB.out.2 hy0)
      clear hy0
      go_wp2_with (at_make; refine wpList_make_bytes rfl _ _ rfl _ _ _ _ k k rfl rfl (by omega) (by omega) (Nat.le_refl _) (by omega) ?_)
      intro w2 hbuf hb2 hz2
      have HZ2:=Lib.hid hz2
      have HCC:=Lib.hid HC
      clear hz2 hyi hsh hqi hri hsi hki hyb hx32 hql hc2
      obtain ⟨m,hm⟩:∃ m,m=k:=⟨_,rfl⟩
      have HSZ:Hid (w.heap.size≤(w.alloc (.cells #[.bool false,.string ⟨#[]⟩] 23)).heap.size):=HB.out.size
      go_wp2
      go_loopw [7] (fun i wr=>∃ (j:Nat),j≤k∧i=.int .i64 (j:Int)∧BBuf wr (w.heap.size+1) (List.replicate (k-j) 0++(led N).reverse.drop (k-j))∧Below (w.heap.size+1) (w.alloc (.cells #[.bool false,.string ⟨#[]⟩] 23)) wr) (fun i _=>k-(intOf i).toNat)
      case atStart =>
       exact ⟨0,by omega,rfl,by rw [Nat.sub_zero,List.drop_of_length_le (by rw [List.length_reverse,HM.out]; exact Nat.le_refl _),List.append_nil]; first | exact hbuf | (rw [HZ.out] at hbuf; exact hbuf),by first | exact hb2 | (rw [HZ.out] at hb2; exact hb2)⟩
      case round =>
       obtain ⟨j,hj,rfl,hbuf',hb'⟩:=hrel
       have hblt:=hbuf'.lt
       clear hbuf hb2 HZ2
       by_cases hj0:j<k
       · have hw3:=HW.out.below (w':=wr) (by rw [HZ.out]; exact hb')
         obtain ⟨b3,o3,e3,hall⟩:=hw3.open_ (by omega)
         cases e3
         obtain ⟨q,hq⟩:∃ q,q=j/4:=⟨_,rfl⟩
         obtain ⟨r,hr⟩:∃ r,r=j % 4:=⟨_,rfl⟩
         obtain ⟨s,hs⟩:∃ s,s=j % 4*8:=⟨_,rfl⟩
         have hc:=hall q (by omega)
         obtain ⟨x,hx'⟩:∃ x,x=N/4294967296^q % 4294967296:=⟨_,rfl⟩
         have hx32:x<4294967296:=by rw [hx']; exact Nat.mod_lt _ (by decide)
         replace hc:wr.cell? ⟨b,o+q,none⟩=some (.int .u32 (x:Int)):=by rw [hx',← dig_getD]; exact hc
         obtain ⟨y,hy⟩:∃ y,y=x/2^s:=⟨_,rfl⟩
         have hsh:(x:Int)/2^s=(y:Int):=by rw [hy,Int.natCast_ediv]; simp
         have hyb:y<4294967296:=by rw [hy]; exact Nat.lt_of_le_of_lt (Nat.div_le_self _ _) hx32
         have hbyte:y % 256=N/256^j % 256:=by rw [hy,hx',hq,hs]; exact byte_word N j
         have HBY:=Lib.hid hbyte
         have hqi:(j:Int)/4=(q:Int):=by omega
         have hri:(j:Int) % 4=(r:Int):=by omega
         have hsi:8*(r:Int)=(s:Int):=by omega
         have hs24:s≤24:=by omega
         have hql:q<l:=by omega
         have hkj:((k:Int)-1-(j:Int))=((k-1-j:Nat):Int):=by omega
         have hc2:=hbuf'.cell (k-1-j) (by rw [List.length_append,List.length_replicate]; omega)
         have hf:=hbuf'.frozen (k-1-j)
         have HBF:=Lib.hid (hbuf'.set (k-1-j) (y % 256) _ (Nat.mod_lt _ (by decide)) rfl)
         have HH:=Lib.hid hb'
         clear hall hw3 hx' hy hbyte hbuf' hb' hq hr hs
         go_wp2
         go_roundw
         case rel =>
          refine ⟨j+1,by omega,by go_num,?_,HH.out.setCell (Nat.le_refl _) _⟩
          have h:=HBF.out
          have h2:=led_back N k j HM.out hj0
          rw [← HBY.out] at h2
          rw [h2] at h
          exact h
         case measure=>simp [intOf]; omega
       · obtain rfl:j=k:=by omega
         rw [Nat.sub_self,List.replicate_zero,List.nil_append,List.drop_zero] at hbuf'
         have hcv:=string_of_byt (hbuf'.byt (n:=j) (cap:=j) (by rw [List.length_reverse]; exact HM.out))
         have HCW:Hid (BoxAt wr w.heap.size #[.bool false,.string ⟨#[]⟩] 23):=by
          have:=HC.out
          unfold BoxAt at this
          unfold Hid BoxAt
          rw [hb'.block _ (by omega)]
          exact this
         have HH:=Lib.hid (HB.out.trans (hb'.mono (Nat.le_succ _)))
         have hp0:=HCW.out.cell 0 _ rfl
         have hp1:=HCW.out.cell 1 _ rfl
         have hf:=HCW.out.frozen
         clear hbuf' hb'
         go_wp2
         have hk:=(HCW.out.set 0 (.bool neg)).set 1 (.string (strN (led N).reverse))
         have k0:=hk.cell 0 _ rfl
         have k1:=hk.cell 1 _ rfl
         exact bodyPost_ret (v:=.agg #[.bool neg,.string (strN (led N).reverse)]) (by simp [results,Tryz.results247,go_sem,k0,k1]) rfl ⟨by rw [← HNN.out,wholeV_sg HNP.out],(HH.out.setCell (Nat.le_refl _) _).setCell (Nat.le_refl _) _⟩
end Go.Proofs.YtmfedaakeeiolaaGreat
end
section
namespace Go.Proofs.YtmfedaakeeiolaaGreat
section
open Go.RowKit
theorem dig_len_bytes (n:Nat):(dig n).length=((led n).length+3)/4:=by
 refine Nat.le_antisymm (dig_len_le _ _ ?_) ?_
 · have h:=led_lt n
   rw [p256] at h
   rw [p32]
   exact Nat.lt_of_lt_of_le h (Nat.pow_le_pow_right (by decide) (by omega))
 · rcases Nat.eq_zero_or_pos n with h0 | h0
   · subst h0; rw [led_zero]; exact Nat.zero_le _
   · have h1:=led_len_pos n h0
     have h2:=dig_lt n
     rw [p256] at h1
     rw [p32] at h2
     have:=(Nat.pow_lt_pow_iff_right (by decide:1<2)).1 (Nat.lt_of_le_of_lt h1 h2)
     omega
theorem full_dig {ls:List Nat} {n:Nat} (hw:Wf ls) (hv:val ls=n) (hl:ls.length=(dig n).length):ls=dig n:=by
 have h:=dig_of ls n hw hv
 have h2:=trim_eq_take ls
 rw [h,← hl,List.take_of_length_le (Nat.le_refl _)] at h2
 exact h2.symm
theorem str_at {s:ByteArray} {n:Nat} (hs:s=mag n) (m k:Nat) (hm:m=s.size) (hk:k<m) (h:m-1-k<s.size):(s[m-1-k]'h).toNat=(led n).getD k 0:=by
 have e:leS s=led n:=by rw [hs,leS_mag]
 have h1:=leS_getD s k (by omega)
 rw [e] at h1
 rw [h1]
 subst hm
 rfl
set_option maxHeartbeats 1600000 in
set_option maxRecDepth 100000 in
theorem words_any {w:World} (s:ByteArray) (n:Nat) (hs:s=mag n) (hm:s.size≤4294967296) :
  Calls Tryz.prog 259 #[.string s] w fun e w'=>∃ A c,e=.returned (.slice A (dig n).length c)∧Words w' (.slice A (dig n).length c) (dig n)∧Below w.heap.size w w':=by
 obtain ⟨m,hms⟩:∃ m,m=s.size:=⟨_,rfl⟩
 have HN:Hid ((led n).length=m):=by rw [hms,hs,Hid,mag_size]
 have hmi:(s.size:Int)=(m:Int):=by rw [hms]
 have hmb:m≤4294967296:=by omega
 have HS:=Lib.hid hs
 have HM:=Lib.hid hms
 clear hs hms
 go_enter Tryz.func259,Tryz.ntmps259
 go_wp2_with (at_make; refine wpList_make_words rfl _ _ rfl _ _ _ _ ((m+3)/4) ((m+3)/4) rfl rfl (by omega) (by omega) (by omega) (by omega) ?_)
 intro w1 hbuf hb1 hz1
 have HZ1:=Lib.hid hz1
 clear hz1
 go_wp2
 go_loopw [4] (fun i wr=>∃ (k:Nat) (ls:List Nat),k≤m∧i=.int .i64 (k:Int)∧Hid (ls.length=(m+3)/4)∧Hid (val ls=bval ((led n).take k))∧Buf wr w.heap.size ls∧Below w.heap.size w wr) (fun i _=>m-(intOf i).toNat)
 case atStart=>exact ⟨0,List.replicate ((m+3)/4) 0,by omega,rfl,by simp [Hid],by rw [Hid,val_zeros]; rfl,hbuf,hb1⟩
 case round =>
  obtain ⟨k,ls,hk,rfl,HL,HVL,hbuf',hb'⟩:=hrel
  have hsz:=hb'.size
  have hblt:=hbuf'.lt
  clear hbuf hb1 HZ1
  by_cases hk0:k<m
  · obtain ⟨q,hq⟩:∃ q,q=k/4:=⟨_,rfl⟩
    obtain ⟨r,hr⟩:∃ r,r=k % 4:=⟨_,rfl⟩
    obtain ⟨sh,hs⟩:∃ sh,sh=k % 4*8:=⟨_,rfl⟩
    obtain ⟨x,hx⟩:∃ x,x=(led n).getD k 0:=⟨_,rfl⟩
    obtain ⟨a,ha⟩:∃ a,a=ls.getD q 0:=⟨_,rfl⟩
    obtain ⟨k1,k2,k3,k4,k5⟩:=byte_into ls (led n) k x q sh hbuf'.1 (by rw [HL.out]; omega) HVL.out (B8_led n) (by rw [HN.out]; exact hk0) hx.symm hq hs
    have hidx:m-1-k<s.size:=by omega
    have hch:(s[m-1-k]'hidx).toNat=x:=by rw [hx]; exact str_at HS.out m k HM.out hk0 hidx
    have hqi:(k:Int)/4=(q:Int):=by omega
    have hri:(k:Int) % 4=(r:Int):=by omega
    have hsi:8*(r:Int)=(sh:Int):=by omega
    have hs24:sh≤24:=by omega
    have hc2:=hbuf'.cell q (by rw [HL.out]; omega)
    rw [← ha] at hc2 k2 k3 k4 k5
    have hf:=hbuf'.frozen q
    have HB:=Lib.hid (hbuf'.set q (a+x*2^sh) _ k4 rfl)
    obtain ⟨t,ht⟩:∃ t,t=x*2^sh:=⟨_,rfl⟩
    have hti:(x:Int)*2^sh=(t:Int):=by rw [ht,Int.natCast_mul,Int.natCast_pow]; rfl
    rw [← ht] at k3 k4 k5 HB
    rw [Int.natCast_add] at HB
    have hmk2:((m:Int)-1-(k:Int))=((m-1-k:Nat):Int):=by omega
    have HK5:=Lib.hid k5
    have hql:q<(m+3)/4:=by omega
    clear ha hx ht hq hr hs k2 k3 k5 hbuf'
    go_wp2
    go_region
    go_wp2
    go_roundw
    case rel =>
     refine ⟨k+1,ls.set q (a+t),by omega,by go_num,by rw [Hid,List.length_set]; exact HL.out,HK5.out,HB.out,Below.drew (hb'.setCell (Nat.le_refl _) _)⟩
    case measure=>simp [intOf]; omega
  · obtain rfl:k=m:=by omega
    have hv:=HVL.out
    rw [List.take_of_length_le (by rw [HN.out]; exact Nat.le_refl _),bval_led] at hv
    have hd:ls=dig n:=full_dig hbuf'.1 hv (by rw [HL.out,dig_len_bytes,HN.out])
    have hln:(dig n).length=(k+3)/4:=by rw [← hd]; exact HL.out
    have hw:=hbuf'.words (cap:=(k+3)/4) (by rw [HL.out]; omega) (by rw [HL.out]; exact Nat.le_refl _)
    rw [hd] at hw
    have HW:=Lib.hid hw
    have HLN:=Lib.hid hln
    clear hbuf' hw hv hd hln
    go_wp2
    go_ret
    exact ⟨some ⟨w.heap.size,0,none⟩,(k+3)/4,by rw [HLN.out]; rfl,HW.out,hb'⟩
set_option maxHeartbeats 800000 in
set_option maxRecDepth 100000 in
theorem runder_cells (xs ys:List Nat) (b o b' o' n ca cb:Nat) (r:Int) (w:World) (hx:xs.length=n) (hy:ys.length=n) (hb:n≤17179869184) (h0:0<n) (hwx:Wf xs) (hwy:Wf ys) (hr:r=cmpN (val xs) (val ys))
  (hc:∀ i,i<n→w.cell? ⟨b,o+i,none⟩=some (.int .u32 (xs.getD i 0:Nat))) (hd:∀ i,i<n→w.cell? ⟨b',o'+i,none⟩=some (.int .u32 (ys.getD i 0:Nat))) :
  Calls Tryz.prog 258 #[.slice (some ⟨b,o,none⟩) n ca,.slice (some ⟨b',o',none⟩) n cb] w fun e w'=>e=.returned (.int .i64 r)∧Dr w w':=by
 have HX:=Lib.hid hx
 have HY:=Lib.hid hy
 have HR:=Lib.hid hr
 clear hx hy hr
 go_enter Tryz.func258,Tryz.ntmps258
 go_wp2
 go_loopw [5] (fun i wr=>∃ k:Nat,k≤n∧i=.int .i64 ((k:Int)-1)∧(∀ j,k≤j→j<n→xs.getD j 0=ys.getD j 0)∧Dr w wr) (fun i _=>(intOf i+1).toNat)
 case atStart=>exact ⟨n,Nat.le_refl _,rfl,fun j h1 h2=>by omega,Dr.refl _⟩
 case round =>
  obtain ⟨k,hk,rfl,hs,d,rfl⟩:=hrel
  have HS:=Lib.hid hs
  clear hs
  by_cases hk0:0<k
  · obtain ⟨k,rfl⟩:∃ j,k=j+1:=⟨k-1,by omega⟩
    have e1:((k+1:Nat):Int)-1=(k:Int):=by omega
    rw [e1]
    clear e1
    have hk1:(0:Int)≤(k:Int):=by omega
    have hk2:(k:Int)<(n:Int):=by omega
    have hcell:=hc k (by omega)
    have hcell':=hd k (by omega)
    go_wp2
    go_quiet (fail)
    go_wp2
    · have h1:(xs[k]?.getD 0)<(ys[k]?.getD 0):=by assumption
      go_ret
      refine ⟨ret_i ?_,by repeat (first | exact ⟨_,rfl⟩ | refine Dr.n ?_ _)⟩
      have h2:=val_lt_of xs ys k hwx (by rw [HX.out,HY.out]) (by rw [HX.out]; omega) (by simpa using h1) (fun j h3 h4=>HS.out j (by omega) (by rw [HX.out] at h4; exact h4))
      rw [HR.out,cmpN,if_pos h2]
    · go_quiet (fail)
      go_wp2
      · have h1:(ys[k]?.getD 0)<(xs[k]?.getD 0):=by assumption
        go_ret
        refine ⟨ret_i ?_,by repeat (first | exact ⟨_,rfl⟩ | refine Dr.n ?_ _)⟩
        have h2:=val_lt_of ys xs k hwy (by rw [HX.out,HY.out]) (by rw [HY.out]; omega) (by simpa using h1) (fun j h3 h4=>(HS.out j (by omega) (by rw [HY.out] at h4; exact h4)).symm)
        rw [HR.out,cmpN,if_neg (by omega),if_pos h2]
      · have h1:(ys[k]?.getD 0)≤(xs[k]?.getD 0):=Nat.le_of_not_lt (by assumption)
        have h2:(xs[k]?.getD 0)≤(ys[k]?.getD 0):=Nat.le_of_not_lt (by assumption)
        go_roundw
        case rel =>
         refine ⟨k,by omega,rfl,fun j h3 h4=>?_,by repeat (first | exact ⟨_,rfl⟩ | refine Dr.n ?_ _)⟩
         rcases Nat.eq_or_lt_of_le h3 with rfl | h5
         · simpa using Nat.le_antisymm h2 h1
         · exact HS.out j (by omega) h4
        case measure=>simp [intOf]
  · obtain rfl:k=0:=by omega
    go_wp2
    go_ret
    refine ⟨ret_i ?_,_,rfl⟩
    have:xs=ys:=val_eq_of_same xs ys (by rw [HX.out,HY.out]) (fun i hi=>HS.out i (by omega) (by rw [HX.out] at hi; exact hi))
    rw [HR.out,this]
    simp [cmpN]
set_option maxHeartbeats 800000 in
set_option maxRecDepth 100000 in
theorem runder_any {w:World} {A B:Option Addr} {la ca lb cb n m:Nat} (hx:Words w (.slice A la ca) (dig n)) (hy:Words w (.slice B lb cb) (dig m)) :
  Calls Tryz.prog 258 #[.slice A la ca,.slice B lb cb] w fun e w'=>e=.returned (.int .i64 (cmpN n m))∧Dr w w':=by
 have hla:=hx.len.1
 have hlb:=hy.len.1
 have hsz:=hx.2.1
 have hsz2:=hy.2.1
 rcases Nat.lt_trichotomy la lb with h | h | h
 · have hc:cmpN n m = -1:=by rw [cmpN,if_pos (dig_len_lt n m (by omega))]
   rw [hc]
   rw [← hla] at hsz
   rw [← hlb] at hsz2
   clear hx hy hc hla hlb
   go_enter Tryz.func258,Tryz.ntmps258
   go_wp2
   go_ret
   exact ⟨rfl,Dr.refl _⟩
 · subst h
   by_cases h0:la=0
   · subst h0
     have e1:=(dig_nil_iff n).1 (List.eq_nil_of_length_eq_zero hla.symm)
     have e2:=(dig_nil_iff m).1 (List.eq_nil_of_length_eq_zero hlb.symm)
     have hc:cmpN n m=0:=by rw [e1,e2]; rfl
     rw [hc]
     clear hx hy hc hla hlb hsz hsz2 e1 e2
     go_enter Tryz.func258,Tryz.ntmps258
     go_wp2
     refine wp_loop_rounds 1 ?_
     rw [rounds_succ]
     go_wp2
     go_ret
     exact ⟨rfl,Dr.refl _⟩
   · obtain ⟨b,o,rfl,hc⟩:=hx.open_ (by omega)
     obtain ⟨b',o',rfl,hd⟩:=hy.open_ (by omega)
     exact runder_cells (dig n) (dig m) b o b' o' la ca cb _ w hla.symm hlb.symm (by omega) (by omega) (Wf_dig n) (Wf_dig m) (by rw [val_dig,val_dig]) hc hd
 · have hc:cmpN n m=1:=by have:=dig_len_lt m n (by omega); rw [cmpN,if_neg (by omega),if_pos this]
   rw [hc]
   rw [← hla] at hsz
   rw [← hlb] at hsz2
   clear hx hy hc hla hlb
   go_enter Tryz.func258,Tryz.ntmps258
   go_wp2
   go_ret
   exact ⟨rfl,Dr.refl _⟩
theorem at_any {w:World} {A:Option Addr} {n cap:Nat} {xs:List Nat} (h:Words w (.slice A n cap) xs) (i:Nat) (hi:i≤4611686018427387904) :
  Calls Tryz.prog 374 #[.slice A n cap,.int .i64 (i:Int)] w fun e w'=>e=.returned (.int .u64 ((xs.getD i 0:Nat):Int))∧w=w':=by
 have hl:=h.len.1
 have hb:=h.2.1
 have HX:=Lib.hid h
 have HL:=Lib.hid hl
 have hn:n≤17179869184:=by omega
 obtain ⟨x,hx⟩:∃ x,x=xs.getD i 0:=⟨_,rfl⟩
 have hx32:x<4294967296:=by rw [hx]; exact h.1.getD i
 by_cases hlt:i<n
 · obtain ⟨b,o,rfl,hall⟩:=h.open_ (by omega)
   have hc:=hall i (by omega)
   rw [← hx] at hc ⊢
   clear hall h hx hl hb
   go_enter Tryz.func374,Tryz.ntmps374
   go_wp2
   go_ret
   exact ⟨rfl,rfl⟩
 · have hx0:x=0:=by rw [hx]; exact getD_out (by omega)
   rw [← hx,hx0]
   clear h hx hl hb hx0
   go_enter Tryz.func374,Tryz.ntmps374
   go_wp2
   go_ret
   exact ⟨rfl,rfl⟩
set_option maxHeartbeats 800000 in
theorem small_any {A:Option Addr} {la ca:Nat} {xs:List Nat} {w:World} (hx:Words w (.slice A la ca) xs) (h1:la≤17179869184) (d:Nat) (hd0:0<d) (hd:d<4294967296) :
  Calls Tryz.prog 372 #[.slice A la ca,.int .u64 (d:Int)] w fun e w'=>∃ v,e=.returned (.tuple #[v,.int .u64 ((val xs % d:Nat):Int)])∧Words w' v (dig (val xs/d))∧Below w.heap.size w w':=by
 have hla:=Lib.hid hx.len.1
 have HA:=Lib.hid hx
 have hwx:=Lib.hid hx.1
 clear hx
 have hd1:(1:Int)≤(d:Int):=by omega
 go_enter Tryz.func372,Tryz.ntmps372
 go_wp2_with (at_make; refine wpList_make_words rfl _ _ rfl _ _ _ _ la la rfl rfl rfl rfl (by omega) (by omega) ?_)
 intro w1 hbuf hb1 hz1
 have HZ:=Lib.hid hz1
 clear hz1
 go_wp2
 go_loopw [7,8] (fun c i wr=>∃ (k r:Nat) (qs:List Nat),k≤la∧r<d∧c=.int .u64 (r:Int)∧i=.int .i64 ((k:Int)-1)∧Hid (qs.length=la-k)∧Hid (val qs*d+r=val (xs.drop k))∧Buf wr w.heap.size (List.replicate k 0++qs)∧Below w.heap.size w wr) (fun _ i _=>(intOf i+1).toNat)
 case atStart=>exact ⟨la,0,[],by omega,hd0,rfl,rfl,by simp [Hid],by rw [Hid,List.drop_of_length_le (by rw [hla.out]; exact Nat.le_refl _)]; simp [val],by simpa using hbuf,hb1⟩
 case round =>
  obtain ⟨k,r,qs,hk,hr,rfl,rfl,HK,HV,hbuf',hb'⟩:=hrel
  have hlt:=hb'.size
  have hblt:=hbuf'.lt
  clear hbuf hb1 HZ
  by_cases hk0:0<k
  · obtain ⟨k,rfl⟩:∃ j,k=j+1:=⟨k-1,by omega⟩
    have e1:((k+1:Nat):Int)-1=(k:Int):=by omega
    rw [e1]
    clear e1
    have hX:=(HA.out.below hb')
    obtain ⟨b,o,rfl,hall⟩:=hX.open_ (by omega)
    obtain ⟨x,hx⟩:∃ x,x=xs.getD k 0:=⟨_,rfl⟩
    have hcx:wr.cell? ⟨b,o+k,none⟩=some (.int .u32 (x:Int)):=by rw [hx]; exact hall k (by omega)
    have hxl:x<4294967296:=by rw [hx]; exact hwx.out.getD k
    have hst:=hbuf'.cell k (by rw [List.length_append,HK.out,List.length_replicate]; omega)
    have hfz:=hbuf'.frozen k
    have HBUF:=Lib.hid hbuf'
    obtain ⟨t,ht⟩:∃ t,t=r*4294967296+x:=⟨_,rfl⟩
    have hti:(r:Int)*4294967296+(x:Int)=(t:Int):=by omega
    have hrb:(r:Int)*4294967296≤18446744069414584320:=by omega
    have htb:t≤18446744073709551615:=by omega
    obtain ⟨q,hqd⟩:∃ q,q=t/d:=⟨_,rfl⟩
    obtain ⟨r',hrd⟩:∃ r',r'=t % d:=⟨_,rfl⟩
    have hq:((t:Int)/(d:Int))=(q:Int):=by rw [hqd]; rfl
    have hq2:((t:Int) % (d:Int))=(r':Int):=by rw [hrd]; rfl
    have hqb:q≤4294967295:=by have:=short_word r d x hr hxl; rw [← ht,← hqd] at this; omega
    have hrb:r'<d:=by rw [hrd]; exact Nat.mod_lt _ hd0
    have HQ:=Lib.hid hqd
    have HR:=Lib.hid hrd
    have HT:=Lib.hid ht
    have HXX:=Lib.hid hx
    have hk1:(0:Int)≤(k:Int):=by omega
    clear hX hall hbuf' ht hqd hrd hx
    go_wp2
    go_roundw
    case rel =>
     refine ⟨k,r',q::qs,by omega,hrb,by rw [hq2],rfl,?_,by rw [HQ.out,HR.out]; exact short_val xs qs k r d t (by have:=hla.out; omega) HV.out (by rw [HT.out,HXX.out]),?_,hb'.setCell (Nat.le_refl _) _⟩
     · rw [Hid,List.length_cons,HK.out]; omega
     · have:=HBUF.out.set k q _ (by omega) rfl
       rw [set_zero_append] at this
       exact this
    case measure=>simp [intOf]
  · obtain rfl:k=0:=by omega
    rw [List.replicate_zero,List.nil_append] at hbuf'
    have hw:=hbuf'.words (cap:=la) (by rw [HK.out]; omega) (by rw [HK.out]; omega)
    rw [HK.out,Nat.sub_zero] at hw
    have HW:=Lib.hid hw
    have hend:=Lib.hid (short_end xs qs r d hr (by have:=HV.out; rwa [List.drop_zero] at this))
    clear hbuf' hw
    go_wp2_with (go_at_call 330; refine (rcut_any HW.out).mono ?_; rintro e w2 ⟨rfl,rfl⟩)
    go_ret2
    refine ⟨.slice (some ⟨w.heap.size,0,none⟩) (trim qs).length la,?_,?_,hb'⟩
    · rw [← hend.out.2]; rfl
    · rw [← dig_of qs _ HW.out.1 hend.out.1]
      exact HW.out.trim_
end
section
open Go.RowKit
theorem bits_top (m l t j:Nat) (hl:(dig m).length=l+1) (ht:(dig m).getD l 0=t) (h1:t<2^j) (h2:0<j→2^(j-1)≤t) (hj:0<j):Bits m (32*l+j):=by
 have hm:=dig_lt m
 rw [hl] at hm
 rw [dig_getD] at ht
 rw [Nat.pow_succ] at hm
 have h3:m/4294967296^l<4294967296:=Nat.div_lt_of_lt_mul hm
 rw [Nat.mod_eq_of_lt h3] at ht
 have hP:0<4294967296^l:=Nat.pow_pos (by decide)
 have e1:2^(32*l+j)=4294967296^l*2^j:=by rw [p32,← Nat.pow_add]
 have e2:2^(32*l+j-1)=4294967296^l*2^(j-1):=by
  rw [p32,← Nat.pow_add]
  congr 1
  omega
 refine ⟨?_,fun _=>?_⟩
 · rw [e1]
   subst ht
   rw [Nat.mul_comm]
   exact (Nat.div_lt_iff_lt_mul hP).1 h1
 · rw [e2]
   subst ht
   rw [Nat.mul_comm]
   exact (Nat.le_div_iff_mul_le hP).1 (h2 hj)
set_option maxRecDepth 100000 in
theorem rbits_any {w:World} {A:Option Addr} {n cap m:Nat} (h:Words w (.slice A n cap) (dig m)) :
  Calls Tryz.prog 347 #[.slice A n cap] w fun e w'=>∃ L:Nat,e=.returned (.int .i64 (L:Int))∧Bits m L∧L≤32*n∧Below w.heap.size w w':=by
 have hl:=h.len.1
 have hb:=h.2.1
 have hn:n≤17179869184:=by omega
 rcases Nat.eq_zero_or_pos n with hz | hz
 · subst hz
   have hm:m=0:=(dig_nil_iff _).1 (List.eq_nil_of_length_eq_zero hl.symm)
   have HM:=Lib.hid hm
   clear hm hl hb h
   go_enter Tryz.func347,Tryz.ntmps347
   go_wp2
   go_ret
   exact ⟨0,rfl,by rw [HM.out]; exact ⟨by decide,fun h=>absurd h (by decide)⟩,by omega,Below.refl _ _⟩
 · obtain ⟨l,rfl⟩:∃ l,n=l+1:=⟨n-1,by omega⟩
   have ht0:(dig m).getD l 0≠0:=by
    have:=dig_top m (fun e=>by rw [e] at hl; simp at hl)
    rwa [← hl] at this
   obtain ⟨b,o,rfl,hall⟩:=h.open_ (by omega)
   obtain ⟨t,ht⟩:∃ t,t=(dig m).getD l 0:=⟨_,rfl⟩
   have hc:w.cell? ⟨b,o+l,none⟩=some (.int .u32 (t:Int)):=by rw [ht]; exact hall l (by omega)
   have ht32:t<4294967296:=by rw [ht]; exact (Wf_dig _).getD _
   have htp:0<t:=by omega
   have HF:=Lib.hid (fun j h1 h2 hj=>bits_top m l t j hl.symm ht.symm h1 h2 hj)
   have hll:((l+1:Nat):Int)-1=(l:Int):=by omega
   clear hl hb h ht0 hall ht
   go_enter Tryz.func347,Tryz.ntmps347
   go_wp2
   go_loopw [3,4] (fun i c wr=>∃ j T:Nat,j≤32∧i=.int .i64 ((32*l+j:Nat):Int)∧c=.int .u32 (T:Int)∧T<4294967296∧Hid (T=t/2^j)∧Hid (0<j→2^(j-1)≤t)∧Below w.heap.size w wr) (fun _ c _=>(intOf c).toNat)
   case atStart=>exact ⟨0,t,by omega,by go_num,rfl,ht32,by simp [Hid],fun h=>absurd h (by decide),by first | exact Below.refl _ _ | exact Below.drewN_ (Below.refl _ _) _⟩
   case round =>
    obtain ⟨j,T,hj,rfl,rfl,hT,HTT,HJ,hbb⟩:=hrel
    by_cases hT0:0<T
    · have hj32:j<32:=by
       rcases Nat.lt_or_ge j 32 with h | h
       · exact h
       · exfalso
         have h1:=HTT.out
         have h2:2^32≤2^j:=Nat.pow_le_pow_right (by decide) h
         rw [Nat.div_eq_of_lt (by omega)] at h1
         omega
      have HJ2:Hid (2^j≤t):=by
       have h1:=HTT.out
       rcases Nat.lt_or_ge t (2^j) with h | h
       · rw [Nat.div_eq_of_lt h] at h1; omega
       · exact h
      go_wp2
      go_roundw
      case rel =>
       refine ⟨j+1,T/2,by omega,by go_num,by go_num,by omega,?_,fun _=>HJ2.out,hbb⟩
       rw [Hid,HTT.out,Nat.pow_succ,Nat.div_div_eq_div_mul]
      case measure=>simp [intOf]; omega
    · obtain rfl:T=0:=by omega
      have hlt:t<2^j:=by
       have h1:=HTT.out
       rcases Nat.lt_or_ge t (2^j) with h | h
       · exact h
       · have:=Nat.div_pos h (Nat.two_pow_pos j)
         omega
      have hj0:0<j:=by
       rcases Nat.eq_zero_or_pos j with h | h
       · subst h; simp at hlt; omega
       · exact h
      have HG:=Lib.hid (HF.out j hlt HJ.out hj0)
      clear hc hlt
      go_wp2
      go_ret
      exact ⟨32*l+j,rfl,HG.out,by omega,hbb⟩
end
section
open Go.RowKit
set_option maxHeartbeats 1600000 in
set_option maxRecDepth 100000 in
theorem up_any {A:Option Addr} {la ca:Nat} {xs:List Nat} {w:World} (hx:Words w (.slice A la ca) xs) (h1:la≤8589934592) (n:Nat) (hn:n≤137438953472) :
  Calls Tryz.prog 348 #[.slice A la ca,.int .i64 (n:Int)] w fun e w'=>∃ v,e=.returned v∧Words w' v (dig (val xs*2^n))∧Below w.heap.size w w':=by
 have hla:=Lib.hid hx.len.1
 have HA:=Lib.hid hx
 have hwx:=Lib.hid hx.1
 rcases Nat.eq_zero_or_pos la with hz | hz
 · subst hz
   have hxs:xs=[]:=List.eq_nil_of_length_eq_zero hla.out.symm
   have HE:Hid (dig (val xs*2^n)=[]):=by rw [hxs]; simp [Hid,val,dig_zero]
   clear hx hxs
   go_enter Tryz.func348,Tryz.ntmps348
   go_wp2
   go_ret
   exact ⟨_,rfl,by rw [HE.out]; exact Words.nil _,Below.refl _ _⟩
 have hla0:((la:Int)==0)=false:=by rw [beq_eq_false_iff_ne]; omega
 clear hx
 obtain ⟨s,hs⟩:∃ s,s=n % 32:=⟨_,rfl⟩
 have hs32:s<32:=by omega
 have hsi:(n:Int) % 32=(s:Int):=by omega
 have HS:=Lib.hid hs
 clear hs
 go_enter Tryz.func348,Tryz.ntmps348
 go_wp2_with (at_make; refine wpList_make_words rfl _ _ rfl _ _ _ _ (n/32) (n/32+la+1) rfl rfl (by omega) (by omega) (by omega) (by omega) ?_)
 intro w1 hbuf hb1 hz1
 have HROW:=Lib.hid (Row.of_buf (n:=n/32) hbuf (Nat.le_refl _) (by omega) (by omega))
 have HZ:=Lib.hid hz1
 clear hz1 hbuf
 go_wp2
 go_loopw [5,6,7] (fun v c i wr=>∃ (k d:Nat) (ys:List Nat),k≤la∧Hid (d<2^s)∧c=.int .u64 (d:Int)∧i=.int .i64 (k:Int)∧Hid (ys.length=k)∧Hid (val ys+4294967296^k*d=val (xs.take k)*2^s)∧Hid (Row wr w.heap.size v (List.replicate (n/32) 0++ys))∧Below w.heap.size w wr) (fun _ _ i _=>la-(intOf i).toNat)
 case atStart=>exact ⟨0,0,[],by omega,Nat.two_pow_pos _,rfl,rfl,rfl,by simp [Hid,val],by simpa [Hid] using HROW.out,hb1⟩
 case round =>
  obtain ⟨k,d,ys,hk,HD,rfl,rfl,HK,HV,hrow',hb'⟩:=hrel
  have hlt:=hb'.size
  clear HROW hb1 HZ
  by_cases hk1:k<la
  · have hX:=(HA.out.below hb')
    obtain ⟨b,o,rfl,hall⟩:=hX.open_ (by omega)
    obtain ⟨x,hx⟩:∃ x,x=xs.getD k 0:=⟨_,rfl⟩
    have hcx:wr.cell? ⟨b,o+k,none⟩=some (.int .u32 (x:Int)):=by rw [hx]; exact hall k hk1
    have hxl:x<4294967296:=by rw [hx]; exact hwx.out.getD k
    obtain ⟨m,hm⟩:∃ m,m=x*2^s:=⟨_,rfl⟩
    have hmi:(x:Int)*2^s=(m:Int):=by rw [hm,Int.natCast_mul,Int.natCast_pow]; rfl
    have hmb:=mul_two_pow_lt x s hxl (by omega)
    rw [← hm] at hmb
    have hsp:2^s≤2^32:=Nat.pow_le_pow_right (by omega) (by omega)
    have hp:=Nat.two_pow_pos s
    have hd1:=HD.out
    have hm1:m≤18446744073709551615:=by omega
    have hd2:d≤4294967296:=by omega
    have hsum:d+m≤18446744073709551615:=by omega
    have HM:=Lib.hid hm
    have HXX:=Lib.hid hx
    clear hX hall hm hmb hsp hp hd1 hx
    go_wp2_with (at_builtin; refine wpList_append_word rfl (.tmp 36) (.tmp 40) rfl w.heap.size _ (List.replicate (n/32) 0++ys) rfl (hrow'.out.alloc _) ⟨wr.heap.size,0,none⟩ 1 ((d+m) % 4294967296) _ rfl (cell_new0 _ _ _) ?_ (by omega) ?_ ?_ ?_)
    · omega
    · simp only [List.length_append,List.length_replicate,HK.out]; omega
    · simp; omega
    · intro v' w' hrow2 hb2
      have HR2:=Lib.hid hrow2
      have hb3:Below w.heap.size w w':=(hb'.alloc (by omega) _).trans hb2
      clear hrow2 hb2 hb'
      go_wp2
      go_roundw
      case rel =>
       refine ⟨k+1,(d+m)/4294967296,ys++[(d+m) % 4294967296],by omega,?_,by go_num,by go_num,?_,?_,HR2.out,hb3⟩
       · rw [Hid,HM.out]; exact left_carry _ s d hxl (by omega) HD.out
       · rw [Hid,List.length_append,HK.out]; rfl
       · exact left_val xs ys k d s _ HK.out HV.out (by rw [HM.out,HXX.out])
      case measure=>simp [intOf]; omega
  · obtain rfl:k=la:=by omega
    have hsp:2^s≤2^32:=Nat.pow_le_pow_right (by omega) (by omega)
    have hd1:d<4294967296:=by have:=HD.out; omega
    clear hsp
    go_wp2_with (at_builtin; refine wpList_append_word rfl (.tmp 44) (.tmp 47) rfl w.heap.size _ (List.replicate (n/32) 0++ys) rfl (hrow'.out.alloc _) ⟨wr.heap.size,0,none⟩ 1 d _ rfl (cell_new0 _ _ _) ?_ hd1 ?_ ?_ ?_)
    · omega
    · simp only [List.length_append,List.length_replicate,HK.out]; omega
    · simp; omega
    · intro v' w' hrow2 hb2
      have hb3:Below w.heap.size w w':=(hb'.alloc (by omega) _).trans hb2
      have hw:=hrow2.words (by simp only [List.length_append,List.length_replicate,HK.out,List.length_cons,List.length_nil]; omega)
      have HW:=Lib.hid hw
      obtain ⟨A',L',cap',rfl⟩:=hw.form
      clear hrow2 hb2 hb' hw
      go_wp2_with (go_at_call 330; refine (rcut_any HW.out).mono ?_; rintro e w2 ⟨rfl,rfl⟩)
      go_ret
      refine ⟨_,rfl,?_,hb3⟩
      have h2:=HW.out.trim_
      have h3:trim (List.replicate (n/32) 0++(ys++[d]))=dig (val xs*2^n):=by
       refine dig_of _ _ HW.out.1 (left_end xs ys n d ?_)
       have:=HV.out
       rw [val_take_all xs _ (by rw [hla.out]; exact Nat.le_refl _),HS.out] at this
       rw [HK.out]; exact this
      rw [← h3]
      exact h2
set_option maxHeartbeats 1600000 in
set_option maxRecDepth 100000 in
theorem rproduct_any {A B:Option Addr} {la ca lb cb:Nat} {xs ys:List Nat} {w:World} (hx:Words w (.slice A la ca) xs) (hy:Words w (.slice B lb cb) ys) (h1:la≤8589934592) (h2:lb≤8589934592) :
  Calls Tryz.prog 260 #[.slice A la ca,.slice B lb cb] w fun e w'=>∃ v,e=.returned v∧Words w' v (dig (val xs*val ys))∧Below w.heap.size w w':=by
 have hla:=Lib.hid hx.len.1
 have hlb:=Lib.hid hy.len.1
 have HA:=Lib.hid hx
 have HB:=Lib.hid hy
 have hwx:=Lib.hid hx.1
 have hwy:=Lib.hid hy.1
 clear hx hy
 go_enter Tryz.func260,Tryz.ntmps260
 go_wp2_with (at_make; refine wpList_make_words rfl _ _ rfl _ _ _ _ (la+lb) (la+lb) rfl rfl (by omega) (by omega) (Nat.le_refl _) (by omega) ?_)
 intro w1 hbuf hb1 hz1
 have HZ:=Lib.hid hz1
 clear hz1
 go_wp2
 go_loopw [6] (fun i wr=>∃ (k:Nat) (os:List Nat),k≤la∧i=.int .i64 (k:Int)∧Hid (os.length=la+lb)∧Hid (val os=val (xs.take k)*val ys)∧Hid (∀ j,k+lb≤j→os.getD j 0=0)∧Buf wr w.heap.size os∧Below w.heap.size w wr) (fun i _=>la-(intOf i).toNat)
 case atStart=>exact ⟨0,List.replicate (la+lb) 0,by omega,rfl,by simp [Hid],by simp [Hid,val,val_zeros],fun j _=>by simp [List.getD,List.getElem?_replicate]; split<;>rfl,hbuf,hb1⟩
 case round =>
  obtain ⟨i,os,hi,rfl,HK,HV,H0,hbuf',hb'⟩:=hrel
  obtain ⟨wo,rfl⟩:∃ wo:World,wo=wr:=⟨_,rfl⟩
  clear hbuf hb1 HZ
  by_cases hk1:i<la
  · have hX:=(HA.out.below hb')
    obtain ⟨b,o,rfl,hall⟩:=hX.open_ (by omega)
    obtain ⟨x,hx⟩:∃ x,x=xs.getD i 0:=⟨_,rfl⟩
    have hcx:wo.cell? ⟨b,o+i,none⟩=some (.int .u32 (x:Int)):=by rw [hx]; exact hall i hk1
    have hxl:x<4294967296:=by rw [hx]; exact hwx.out.getD i
    have HXX:=Lib.hid hx
    have HBUF:=Lib.hid hbuf'
    clear hX hall hbuf' hx
    go_wp2
    go_loopw [7,9] (fun c j wr=>∃ (k d:Nat) (os':List Nat),k≤lb∧d<4294967296∧c=.int .u64 (d:Int)∧j=.int .i64 (k:Int)∧Hid (os'.length=la+lb)∧Hid (val os'+4294967296^(i+k)*d=val os+4294967296^i*(x*val (ys.take k)))∧Hid (∀ j,i+lb≤j→os'.getD j 0=0)∧Buf wr w.heap.size os'∧Below w.heap.size w wr) (fun _ j _=>lb-(intOf j).toNat)
    case atStart=>exact ⟨0,0,os,by omega,by omega,rfl,rfl,HK,by simp [Hid,val],H0,HBUF.out,hb'⟩
    case round =>
     obtain ⟨k,d,os',hk,hd,rfl,rfl,HK',HV',H0',hbuf2,hb2⟩:=hrel
     have hlt:=hb2.size
     have hblt:=hbuf2.lt
     clear hb' hcx
     by_cases hk2:k<lb
     · have hY:=(HB.out.below hb2)
       obtain ⟨b2,o2,rfl,hall⟩:=hY.open_ (by omega)
       obtain ⟨y,hy⟩:∃ y,y=ys.getD k 0:=⟨_,rfl⟩
       have hcy:wr.cell? ⟨b2,o2+k,none⟩=some (.int .u32 (y:Int)):=by rw [hy]; exact hall k hk2
       have hyl:y<4294967296:=by rw [hy]; exact hwy.out.getD k
       obtain ⟨z,hz⟩:∃ z,z=os'.getD (i+k) 0:=⟨_,rfl⟩
       have hst:wr.cell? ⟨w.heap.size,i+k,none⟩=some (.int .u32 (z:Int)):=by rw [hz]; exact hbuf2.cell (i+k) (by rw [HK'.out]; omega)
       have hfz:=hbuf2.frozen (i+k)
       have hol:z<4294967296:=by rw [hz]; exact hbuf2.1.getD (i+k)
       obtain ⟨m,hm⟩:∃ m,m=x*y:=⟨_,rfl⟩
       have hmb:m≤18446744065119617025:=by rw [hm]; exact mul_word _ _ hxl hyl
       have hmi:(x:Int)*(y:Int)=(m:Int):=by rw [hm]; exact (Int.natCast_mul _ _).symm
       have HM:=Lib.hid hm
       have HY:=Lib.hid hy
       have HZZ:=Lib.hid hz
       have HBUF2:=Lib.hid hbuf2
       obtain ⟨t,ht⟩:∃ t,t=d+m+z:=⟨_,rfl⟩
       have hti:(d:Int)+(m:Int)+(z:Int)=(t:Int):=by omega
       have htb:t≤18446744073709551615:=by omega
       have HT:=Lib.hid ht
       clear hY hall hbuf2 hm HBUF hy hz ht
       go_wp2
       go_region
       go_wp2
       go_roundw
       case rel =>
        refine ⟨k+1,t/4294967296,os'.set (i+k) (t % 4294967296),by omega,by omega,by go_num,by go_num,?_,?_,?_,?_,Below.setCell (Below.drew hb2) (Nat.le_refl _) _⟩
        · rw [Hid,List.length_set]; exact HK'.out
        · exact prod_val os os' ys i k d x _ (by rw [HK'.out]; omega) HV'.out (by rw [HT.out,HM.out,HY.out,HZZ.out]; omega)
        · intro j hj
          rw [getD_set,if_neg (by omega)]
          exact H0'.out j hj
        · exact (HBUF2.out.drewN 1).set (i+k) _ _ (by omega) (by go_num)
       case measure=>simp [intOf]; omega
     · obtain rfl:k=lb:=by omega
       have hst:=hbuf2.cell (i+k) (by rw [HK'.out]; omega)
       have hfz:=hbuf2.frozen (i+k)
       have HBUF2:=Lib.hid hbuf2
       clear hbuf2 HBUF
       go_wp2
       go_roundw
       case rel =>
        refine ⟨i+1,os'.set (i+k) d,by omega,by go_num,?_,?_,?_,HBUF2.out.set (i+k) d _ hd (by go_num),hb2.setCell (Nat.le_refl _) _⟩
        · rw [Hid,List.length_set]; exact HK'.out
        · have h1:=HV'.out
          rw [val_take_all ys k (by rw [hlb.out]; exact Nat.le_refl _),HXX.out] at h1
          have hl:=hlb.out
          have h2:=H0'.out (i+k) (Nat.le_refl _)
          rw [hl] at h1 h2 ⊢
          exact prod_end os os' xs ys i d (by rw [HK'.out]; omega) h2 HV.out h1
        · intro j hj
          rw [getD_set]
          split
          · omega
          · exact H0'.out j (by omega)
       case measure=>simp [intOf]; omega
  · obtain rfl:i=la:=by omega
    have hv:val os=val xs*val ys:=by
     have h1:=HV.out
     rwa [val_take_all xs _ (by rw [hla.out]; exact Nat.le_refl _)] at h1
    have hw:=hbuf'.words (cap:=i+lb) (by rw [HK.out]; omega) (by rw [HK.out]; exact Nat.le_refl _)
    have hdd:=dig_of os _ hbuf'.1 hv
    rw [HK.out] at hw
    have HW:=Lib.hid hw
    have HD:=Lib.hid hdd
    clear hw hbuf' hv hdd
    go_wp2_with fail
    refine (rcut_any HW.out).mono ?_
    rintro e w2 ⟨rfl,rfl⟩
    go_wp2
    go_ret
    refine ⟨_,rfl,?_,hb'⟩
    rw [← HD.out]
    exact HW.out.trim_
end
section
open Go.RowKit
theorem at_val {w:World} {A:Option Addr} {n cap:Nat} {xs:List Nat} (h:Words w (.slice A n cap) xs) (i x:Nat) (hi:i≤4611686018427387904) (hx:xs.getD i 0=x) (k:Nat) :
  Calls Tryz.prog 374 #[.slice A n cap,.int .i64 (i:Int)] (w.drewN k) fun e w'=>e=.returned (.int .u64 (x:Int))∧w'=w.drewN k :=
 (at_any (h.below (Below.drewN_ (Below.refl _ _) k)) i hi).mono fun e w' h=>⟨by rw [h.1,hx],h.2.symm⟩
theorem Row.on_ {w w':World} {base:Nat} {v:Value} {zs:List Nat} (h:Row w base v zs) (k:Below w.heap.size w w'):Row w' base v zs:=by
 obtain ⟨h0,h1,h2⟩:=h
 refine ⟨h0,h1,?_⟩
 rcases h2 with h2 | ⟨g,cap,cur,e,hg,hh,hc⟩
 · exact .inl h2
 · exact .inr ⟨g,cap,cur,e,hg,by rw [k.block g (heap_some_lt hh)]; exact hh,hc⟩
set_option maxHeartbeats 1600000 in
set_option maxRecDepth 100000 in
theorem down_any {A:Option Addr} {la ca:Nat} {xs:List Nat} {w:World} (hx:Words w (.slice A la ca) xs) (h1:la≤17179869184) (n:Nat) (hn:n≤1099511627776) :
  Calls Tryz.prog 375 #[.slice A la ca,.int .i64 (n:Int)] w fun e w'=>∃ v,e=.returned v∧Words w' v (dig (val xs/2^n))∧Below w.heap.size w w':=by
 have hla:=Lib.hid hx.len.1
 have HA:=Lib.hid hx
 have hwx:=Lib.hid hx.1
 obtain ⟨s,hs⟩:∃ s,s=n % 32:=⟨_,rfl⟩
 have hs32:s<32:=by omega
 have hsi:(n:Int) % 32=(s:Int):=by omega
 obtain ⟨q,hq⟩:∃ q,q=n/32:=⟨_,rfl⟩
 have hqi:(n:Int)/32=(q:Int):=by omega
 have hqb:q≤34359738368:=by omega
 obtain ⟨ys,hys⟩:∃ ys,ys=xs.drop q:=⟨_,rfl⟩
 have hwy:Hid (Wf ys):=by rw [hys]; exact hx.1.drop q
 have hly:Hid (ys.length=la-q):=by rw [hys,Hid,List.length_drop,hla.out]
 have HYX:Hid (∀ k,xs.getD (q+k) 0=ys.getD k 0):=by
  intro k
  rw [hys]
  simp [List.getD]
 have HV:Hid (val ys/2^s=val xs/2^n):=by
  rcases Nat.lt_or_ge q la with h | h
  · have:=shr_words xs n hx.1 (by rw [← hla.out]; omega)
    rw [Hid,hys,hs,hq]; exact this
  · have h2:=shr_none xs n hx.1 (by rw [← hla.out]; omega)
    rw [Hid,h2,hys,List.drop_of_length_le (by rw [← hla.out]; exact h)]
    simp [val]
 clear hx hs hq hys
 go_enter Tryz.func375,Tryz.ntmps375
 go_wp2
 go_loopw [5,6] (fun v i wr=>∃ (k:Nat),k≤la-q∧i=.int .i64 ((q+k:Nat):Int)∧Hid (Row wr w.heap.size v ((shrL s ys).take k))∧Below w.heap.size w wr) (fun _ i _=>la-(intOf i).toNat)
 case atStart=>exact ⟨0,by omega,by go_num,Row.nil _ _,Below.refl _ _⟩
 case round =>
  obtain ⟨k,hk,rfl,hrow,hb'⟩:=hrel
  have hlt:=hb'.size
  have hkl:Hid (((shrL s ys).take k).length=k):=by rw [Hid,List.length_take,shrL_length,hly.out]; omega
  by_cases hk1:q+k<la
  · have hX:=(HA.out.below hb')
    obtain ⟨b,o,rfl,hall⟩:=hX.open_ (by omega)
    obtain ⟨x,hx⟩:∃ x,x=xs.getD (q+k) 0:=⟨_,rfl⟩
    obtain ⟨x2,hx2⟩:∃ x,x=xs.getD (q+k+1) 0:=⟨_,rfl⟩
    have hcx:wr.cell? ⟨b,o+(q+k),none⟩=some (.int .u32 (x:Int)):=by rw [hx]; exact hall (q+k) hk1
    have hx32:x<4294967296:=by rw [hx]; exact hwx.out.getD _
    have hx232:x2<4294967296:=by rw [hx2]; exact hwx.out.getD _
    obtain ⟨t,ht⟩:∃ t,t=x2*4294967296+x:=⟨_,rfl⟩
    have hti:(x2:Int)*4294967296+(x:Int)=(t:Int):=by omega
    have hxb:(x2:Int)*4294967296≤18446744069414584320:=by omega
    have htb:t≤18446744073709551615:=by omega
    obtain ⟨u,hu⟩:∃ u,u=t/2^s:=⟨_,rfl⟩
    have hui:(t:Int)/2^s=(u:Int):=by rw [hu,Int.natCast_ediv,Int.natCast_pow]; rfl
    have hub:u≤18446744073709551615:=by rw [hu]; exact Nat.le_trans (Nat.div_le_self _ _) htb
    have HU:=Lib.hid hu
    have HT:=Lib.hid ht
    have HXX:=Lib.hid hx
    have HX2:=Lib.hid hx2
    have HXW:=Lib.hid hX
    have hki:((q+k:Nat):Int)+1=((q+k+1:Nat):Int):=by omega
    clear hX hall hx hx2 ht hu
    go_wp2
    go_quiet ((go_at_call 374; exact Calls.quiet_of_same (at_val HXW.out (q+k+1) x2 (by omega) HX2.out.symm _)))
    go_wp2_with (at_builtin; refine wpList_append_word rfl (.tmp 30) (.tmp 34) rfl w.heap.size _ ((shrL s ys).take k) rfl ((Row.on_ hrow.out (Below.drewN_ (Below.refl _ _) _)).alloc _) ⟨_,0,none⟩ 1 (u % 4294967296) _ rfl (cell_new0 _ _ _) ?_ (by omega) ?_ ?_ ?_)
    · omega
    · rw [hkl.out]; omega
    · simp; omega
    · intro v' w' hrow2 hb2
      have HR2:=Lib.hid hrow2
      have hb3:Below w.heap.size w w':=((Below.drewN_ hb' _).alloc (by simpa using hlt) _).trans hb2
      clear hrow2 hb2 hb'
      go_wp2
      go_roundw
      case rel =>
       refine ⟨k+1,by omega,by go_num,?_,hb3⟩
       have h:=HR2.out
       have e:((shrL s ys).take k)++[u % 4294967296]=(shrL s ys).take (k+1):=by
        rw [shrL_take s ys k (by rw [hly.out]; omega)]
        have e2:(ys.getD k 0+4294967296*ys.getD (k+1) 0)/2^s=u:=by
         rw [HU.out,HT.out,← HYX.out k,← HYX.out (k+1),← HXX.out,← Nat.add_assoc,← HX2.out,Nat.add_comm,Nat.mul_comm]
        rw [e2]
       rw [e] at h
       exact h
      case measure=>simp [intOf]; omega
  · have hke:k=la-q:=by omega
    have hw:=hrow.out.words (by rw [hkl.out]; omega)
    rw [List.take_of_length_le (by rw [shrL_length,hly.out]; omega)] at hw
    have HW:=Lib.hid hw
    obtain ⟨A',L',cap',rfl⟩:=hw.form
    clear hw hke
    go_wp2_with fail
    refine (rcut_any HW.out).mono ?_
    rintro e w2 ⟨rfl,rfl⟩
    go_wp2
    go_ret
    refine ⟨_,rfl,?_,hb'⟩
    rw [← HV.out,← val_shrL s ys hwy.out hs32,← dig_of _ _ (Wf_shrL s ys) rfl]
    exact HW.out.trim_
theorem Buf.window {w:World} {g j m L c:Nat} {us:List Nat} (h:Buf w g us) (hl:us.length=L) (hL:L≤17179869184) (hj:j+m≤L) (hm:0<m) (hc:m≤c):Words w (.slice (some ⟨g,j,none⟩) m c) ((us.drop j).take m):=by
 obtain ⟨hw,cs,h1,h2,h3⟩:=h
 have hlen:((us.drop j).take m).length=m:=by rw [List.length_take,List.length_drop]; omega
 refine ⟨(hw.drop j).take m,by rw [hlen]; omega,_,c,by rw [hlen],by rw [hlen]; exact hc,fun _=>⟨g,j,cs,_,rfl,h1,fun i hi=>?_⟩⟩
 rw [hlen] at hi
 rw [h3 (j+i) (by omega)]
 congr 3
 simp [List.getD,List.getElem?_take,hi]
theorem cmpN_le {n m:Nat}:cmpN n m≤0↔n≤m:=by
 unfold cmpN
 split
 · omega
 · split<;>omega
set_option maxHeartbeats 1600000 in
set_option maxRecDepth 100000 in
theorem fits_any {w:World} {Av:Option Addr} {n cv gu L j q V:Nat} {us:List Nat} (hv:Words w (.slice Av n cv) (dig V)) (hu:Buf w gu us) (hl:us.length=L) (hL:L≤8589934592) (hj:j+n+1≤L) (hn:n≤4294967296) (hq:q<4294967296) (r:Bool) (hr:decide (q*V≤val ((us.drop j).take (n+1)))=r) :
  Calls Tryz.prog 373 #[.slice (some ⟨gu,0,none⟩) L L,.slice Av n cv,.int .i64 (j:Int),.int .u64 (q:Int)] w fun e w'=>e=.returned (.bool r)∧Below w.heap.size w w':=by
 have HV:=Lib.hid hv
 have HU:=Lib.hid hu
 have HL:=Lib.hid hl
 obtain ⟨mid,hmid⟩:∃ mid,mid=(us.drop j).take (n+1):=⟨_,rfl⟩
 rw [← hmid] at hr
 have HR:=Lib.hid hr
 have HMID:=Lib.hid hmid
 have hwq:=words_one w q _ hq rfl
 have HWQ:=Lib.hid hwq
 have HB:=Lib.hid (below_new w (.cells #[.int .u32 (q:Int)] 284))
 have HV1:=Lib.hid (hv.below HB.out)
 clear hv hu hl hr hmid hwq
 go_enter Tryz.func373,Tryz.ntmps373
 go_wp2_with fail
 refine (rproduct_any HWQ.out HV1.out (by decide) (by omega)).mono ?_
 rintro e w2 ⟨v,rfl,h1,hb⟩
 obtain ⟨Ax,nx,cx,rfl⟩:=h1.form
 have HX:=Lib.hid h1
 have HB2:=Lib.hid (HB.out.trans (hb.mono HB.out.size))
 clear h1 hb
 have hwin:∀ c,n+1≤c→Words w2 (.slice (some ⟨gu,j,none⟩) (n+1) c) mid:=fun c hc=>by rw [HMID.out]; exact ((HU.out.on HB2.out).window HL.out (by omega) (by omega) (by omega) hc)
 have HWIN:=Lib.hid hwin
 clear hwin
 go_wp2_with fail
 rw [show j+n+1-j=n+1 by omega]
 refine (rcut_any (HWIN.out (L-j) (by omega))).mono ?_
 rintro e w3 ⟨rfl,rfl⟩
 have hmw:=HWIN.out (L-j) (by omega)
 have hd:trim mid=dig (val mid):=(dig_val mid hmw.1).symm
 have hcw:=(HWIN.out (L-j) (by omega)).trim_
 rw [hd] at hcw ⊢
 have HCW:=Lib.hid hcw
 clear hd hcw hmw
 go_wp2_with fail
 refine (runder_any HX.out HCW.out).mono ?_
 rintro e w4 ⟨rfl,hdr⟩
 have HB4:=Lib.hid (HB2.out.trans (hdr.below _))
 have hcv:val [q]*val (dig V)=q*V:=by rw [val_dig]; simp [val]
 rw [hcv]
 have hkk:decide (cmpN (q*V) (val mid)≤0)=r:=by rw [← HR.out]; exact decide_eq_decide.2 cmpN_le
 have HKK:=Lib.hid hkk
 clear hdr hcv hkk
 go_wp2
 go_ret
 refine ⟨?_,HB4.out⟩
 rw [← HKK.out]
 rfl
end
end Go.Proofs.YtmfedaakeeiolaaGreat
end
section
namespace Go.Proofs.YtmfedaakeeiolaaGreat
open Go.RowKit
theorem Div.first2 (us0:List Nat) (A V k la n:Nat) (hA:A<4294967296^la) (hu:val us0=A*2^k) (hl:us0.length=la+2) (hn:0<n) (hnl:n≤la) (hk:k≤31) (hV:4294967296^(n-1)*2147483648≤V) :
  Div us0 us0 (List.replicate (la+2-n) 0) V (la+2-n) (la+2) n:=by
 refine ⟨hl,by simp,rfl,?_,by rw [List.drop_of_length_le (by simp)]; simp [val]⟩
 have h1:=val_take_drop us0 (la+2-n) (by omega)
 have h2:4294967296^(la+2-n)*val (us0.drop (la+2-n))<4294967296^(la+1):=by
  have h3:A*2^k<4294967296^la*2^32:=by
   have h4:2^k≤2^32:=Nat.pow_le_pow_right (by decide) (by omega)
   exact Nat.mul_lt_mul_of_lt_of_le hA h4 (Nat.two_pow_pos _)
  rw [show (2:Nat)^32=4294967296 from rfl,← Nat.pow_succ] at h3
  omega
 have h5:4294967296^(la+1)=4294967296^(la+2-n)*4294967296^(n-1):=by rw [← Nat.pow_add]; congr 1; omega
 rw [h5] at h2
 have h6:=Nat.lt_of_mul_lt_mul_left h2
 have h7:4294967296^(n-1)*1≤4294967296^(n-1)*2147483648:=Nat.mul_le_mul_left _ (by decide)
 omega
theorem Div.last2 {us0 us qs:List Nat} {b k L n a:Nat} (d:Div us0 us qs (b*2^k) 0 L n) (hu:val us0=a*2^k):val qs=a/b∧val us/2^k=a % b:=by
 have h1:=d.eq
 have h2:=d.rest
 simp only [List.drop_zero] at h1 h2
 rw [hu,← Nat.mul_assoc] at h1
 have hb:0<b:=by
  rcases Nat.eq_zero_or_pos b with h | h
  · subst h; simp at h2
  · exact h
 have hP:=Nat.two_pow_pos k
 obtain ⟨r,hr⟩:∃ r,val us=r*2^k:=by
  refine ⟨a-val qs*b,?_⟩
  rw [Nat.sub_mul]
  omega
 rw [hr] at h1 h2 ⊢
 have h3:r<b:=Nat.lt_of_mul_lt_mul_right h2
 have h4:val qs*b+r=a:=by
  rw [← Nat.add_mul] at h1
  exact Nat.eq_of_mul_eq_mul_right hP h1
 rw [Nat.mul_div_cancel _ hP]
 have h5:a=b*val qs+r:=by rw [Nat.mul_comm]; exact h4.symm
 rw [h5,Nat.mul_add_div hb,Nat.div_eq_of_lt h3,Nat.mul_add_mod,Nat.mod_eq_of_lt h3]
 exact ⟨by omega,rfl⟩
theorem guess_first {U V top v1 P:Nat} (h1:U<(top+1)*P) (h2:v1*P≤V) (h3:0<v1) (hV:0<V) (hU:U<4294967296*V):U<(min (top/v1) 4294967295+1)*V:=by
 have h4:=knu_le U V top v1 P h1 h2 h3 hV
 rcases Nat.le_total (top/v1) 4294967295 with h | h
 · rw [Nat.min_eq_left h]; exact h4
 · rw [Nat.min_eq_right h]; exact hU
theorem take_end {ms:List Nat} {m q V U c:Nat} (hw:Wf ms) (hl:ms.length=m) (hv:val ms+q*V=U+4294967296^m*c) (hle:q*V≤U) (hlt:U<(q+1)*V):val ms+q*V=U∧val ms<V:=by
 have h1:=val_lt ms hw
 rw [hl] at h1
 rcases Nat.eq_zero_or_pos c with h | h
 · subst h
   rw [Nat.add_mul] at hlt
   omega
 · exfalso
   have:4294967296^m*1≤4294967296^m*c:=Nat.mul_le_mul_left _ h
   omega
set_option maxRecDepth 100000 in
theorem divided_small {A B:Option Addr} {la ca lb cb a b:Nat} {w:World} (hx:Words w (.slice A la ca) (dig a)) (hy:Words w (.slice B lb cb) (dig b)) (hlt:a<b) :
  Calls Tryz.prog 334 #[.slice A la ca,.slice B lb cb] w (DivPost w a b):=by
 have HX:=Lib.hid hx
 have HY:=Lib.hid hy
 have HL:=Lib.hid hlt
 clear hx hy hlt
 go_enter Tryz.func334,Tryz.ntmps334
 go_wp2_with (go_at_call 258; refine (runder_any HX.out HY.out).mono ?_; rw [cmpN_lt HL.out]; rintro e w' ⟨rfl,k,rfl⟩)
 go_ret2
 refine ⟨.slice none 0 0,.slice A la ca,rfl,?_,?_,Below.drewN_ (Below.refl _ _) k⟩
 · rw [Nat.div_eq_of_lt HL.out,dig_zero]; exact Words.nil _
 · rw [Nat.mod_eq_of_lt HL.out]; exact HX.out.below (Below.drewN_ (Below.refl _ _) k)
theorem norm_bits {b n t k Lb:Nat} (h:Bits b Lb) (hn:(dig b).length=n) (h0:0<n) (ht:(dig b).getD (n-1) 0=t) (hk:k=32*n-Lb):k≤31∧2147483648≤t*2^k∧t*2^k<4294967296:=by
 obtain ⟨m,rfl⟩:∃ m,n=m+1:=⟨n-1,by omega⟩
 rw [Nat.add_sub_cancel,dig_getD] at ht
 have hm:=dig_lt b
 rw [hn,Nat.pow_succ] at hm
 have h3:b/4294967296^m<4294967296:=Nat.div_lt_of_lt_mul hm
 rw [Nat.mod_eq_of_lt h3] at ht
 have hbp:0<b:=by
  rcases Nat.eq_zero_or_pos b with e | e
  · rw [e,dig_zero] at hn; simp at hn
  · exact e
 have hlow:=dig_len_ge b hbp
 rw [hn,Nat.add_sub_cancel] at hlow
 have hP:0<4294967296^m:=Nat.pow_pos (by decide)
 have hL1:Lb≤32*(m+1):=h.le (by rw [← p32,Nat.pow_succ]; exact hm)
 have hL2:32*m<Lb:=by
  have h4:=h.1
  rw [p32] at hlow
  exact (Nat.pow_lt_pow_iff_right (by decide:1<2)).1 (Nat.lt_of_le_of_lt hlow h4)
 obtain ⟨e,he⟩:∃ e,Lb=32*m+e:=⟨Lb-32*m,by omega⟩
 have hk2:k+e=32:=by omega
 have h5:t<2^e:=by
  have h4:=h.1
  rw [he,Nat.pow_add,← p32] at h4
  rw [← ht]
  exact Nat.div_lt_of_lt_mul h4
 have h6:2^(e-1)≤t:=by
  have h4:=h.2 (by omega)
  rw [he,show 32*m+e-1=32*m+(e-1) by omega,Nat.pow_add,← p32] at h4
  rw [← ht]
  rw [Nat.mul_comm] at h4
  exact (Nat.le_div_iff_mul_le hP).2 h4
 have hK:=Nat.two_pow_pos k
 have e1:2^e*2^k=4294967296:=by rw [← Nat.pow_add,show e+k=32 by omega]
 have e2:2^(e-1)*2^k=2147483648:=by rw [← Nat.pow_add,show e-1+k=31 by omega]
 refine ⟨by omega,?_,?_⟩
 · rw [← e2]; exact Nat.mul_le_mul_right _ h6
 · rw [← e1]; exact Nat.mul_lt_mul_of_pos_right h5 hK
theorem small_dig {A:Option Addr} {la ca a:Nat} {w:World} (hx:Words w (.slice A la ca) (dig a)) (d:Nat) (hd0:0<d) (hd:d<4294967296) :
  Calls Tryz.prog 372 #[.slice A la ca,.int .u64 (d:Int)] w fun e w'=>∃ v r,e=.returned (.tuple #[v,.int .u64 ((r:Nat):Int)])∧Hid (r=a % d)∧r<d∧Words w' v (dig (a/d))∧Below w.heap.size w w':=by
 refine (small_any hx (by rw [hx.len.1]; exact hx.2.1) d hd0 hd).mono fun e w' ⟨v,h1,h2,h3⟩=>?_
 rw [val_dig] at h1 h2
 exact ⟨v,_,h1,rfl,Nat.mod_lt _ hd0,h2,h3⟩
set_option maxRecDepth 100000 in
theorem divided_word {A B:Option Addr} {la ca cb a b:Nat} {w:World} (hx:Words w (.slice A la ca) (dig a)) (hy:Words w (.slice B 1 cb) (dig b)) (hge:b≤a) :
  Calls Tryz.prog 334 #[.slice A la ca,.slice B 1 cb] w (DivPost w a b):=by
 have hl:=hy.len.1
 have hb0:0<b:=by
  rcases Nat.eq_zero_or_pos b with h | h
  · rw [h,dig_zero] at hl; simp at hl
  · exact h
 have hbd:(dig b).getD 0 0=b:=by
  have h1:=val_dig b
  match hd:dig b,hl with
  | [x],_=>rw [hd] at h1; simp [val] at h1; simpa using h1
 have hblt:b<4294967296:=by have:=dig_lt b; rw [← hl] at this; omega
 obtain ⟨bb,o,rfl,hc⟩:=hy.open_ (by omega)
 have hc:w.cell? ⟨bb,o,none⟩=some (.int .u32 (b:Int)):=by have:=hc 0 (by omega); rw [hbd] at this; exact this
 have hsz:=hx.2.1
 rw [← hx.len.1] at hsz
 have HX:=Lib.hid hx
 have HY:=Lib.hid hy
 have HC:=Lib.hid (cmpN_ge hge)
 obtain ⟨r,hr⟩:∃ r,r=cmpN a b:=⟨_,rfl⟩
 have HR:=Lib.hid hr
 have hr0:0≤r:=by rw [hr]; exact HC.out
 have hb1:0<b:=hb0
 clear hx hy hge hl hbd hr HC
 go_enter Tryz.func334,Tryz.ntmps334
 go_wp2_with (first
  | (go_at_call 258; refine (runder_any HX.out HY.out).mono ?_; rw [← HR.out]; rintro e w' ⟨rfl,k,rfl⟩)
  | (go_at_call 372; refine (small_dig (HX.out.below (Below.drewN_ (Below.refl _ _) _)) b hb1 hblt).mono ?_; rintro e w' ⟨v,r2,rfl,hr2,hr2b,hv,hbel⟩))
 have hrl:r2<4294967296:=by omega
 have HV:=Lib.hid hv
 have HB:=Lib.hid hbel
 clear hv hbel
 go_wp2_with (go_at_call 330; refine (rcut_any (words_one _ r2 _ hrl rfl)).mono ?_; rintro e w2 ⟨rfl,rfl⟩)
 go_ret2
 refine ⟨v,.slice (some ⟨w'.heap.size,0,none⟩) (trim [r2]).length 1,rfl,HV.out.below ((Below.refl _ _).alloc (Nat.le_refl _) _),?_,(((Below.drewN_ (Below.refl _ _) _).trans (HB.out.mono (by simp))).alloc (by have:=HB.out.size; simpa using this) _)⟩
 have h1:=(words_one w' r2 _ hrl rfl).trim_
 rw [← hr2.out,← dig_of [r2] r2 (Wf.cons hrl Wf.nil) (by simp [val])]
 exact h1
set_option maxHeartbeats 6400000 in
set_option maxRecDepth 100000 in
theorem divided_long {A B:Option Addr} {la ca lb cb a b:Nat} {w:World} (hx:Words w (.slice A la ca) (dig a)) (hy:Words w (.slice B lb cb) (dig b)) (hge:b≤a) (hl2:2≤lb) (hla:la≤4294967296) :
  Calls Tryz.prog 334 #[.slice A la ca,.slice B lb cb] w (DivPost w a b):=by
 have hla0:=hx.len.1
 have hlb:=hy.len.1
 have hlab:lb≤la:=by rw [hla0,hlb]; exact dig_len_mono _ _ hge
 obtain ⟨t,ht⟩:∃ t,t=(dig b).getD (lb-1) 0:=⟨_,rfl⟩
 have ht32:t<4294967296:=by rw [ht]; exact (Wf_dig b).getD _
 have HX:=Lib.hid hx
 have HY:=Lib.hid hy
 have HLB:=Lib.hid hlb
 have HLA:=Lib.hid hla0
 have HT:=Lib.hid ht
 obtain ⟨r,hr⟩:∃ r,r=cmpN a b:=⟨_,rfl⟩
 have hr0:0≤r:=by rw [hr]; exact cmpN_ge hge
 have HR:=Lib.hid hr
 have HGE:=Lib.hid hge
 have hlb1:((lb:Int)==1)=false:=by rw [beq_eq_false_iff_ne]; omega
 clear hx hy hge hlb hla0 ht hr
 go_enter Tryz.func334,Tryz.ntmps334
 go_wp2_with (go_at_call 258; refine (runder_any HX.out HY.out).mono ?_; rw [← HR.out]; rintro e w' ⟨rfl,kk,rfl⟩)
 have HXd:=Lib.hid (HX.out.below (Below.drewN_ (Below.refl _ _) kk))
 have HYd:=Lib.hid (HY.out.below (Below.drewN_ (Below.refl _ _) kk))
 go_wp2_with fail
 refine (rbits_any HYd.out).mono ?_
 rintro e w0 ⟨Lb,rfl,hbits,hLb,hb0⟩
 obtain ⟨k,hk'⟩:∃ k,k=32*lb-Lb:=⟨_,rfl⟩
 have hki:32*(lb:Int)-(Lb:Int)=(k:Int):=by omega
 have hN:k≤31∧2147483648≤t*2^k∧t*2^k<4294967296:=norm_bits hbits HLB.out.symm (by omega) HT.out.symm hk'
 have hk:k≤31:=hN.1
 have HN:=Lib.hid (norm_top b lb t k HLB.out.symm (by omega) HT.out.symm hN.2.1 hN.2.2 hk)
 have HB0:=Lib.hid hb0
 clear hbits hk' hN hb0
 have HX0:=Lib.hid (HXd.out.below HB0.out)
 have HY0:=Lib.hid (HYd.out.below HB0.out)
 go_wp2_with fail
 refine (up_any HY0.out (by omega) k (by omega)).mono ?_
 rintro e w1 ⟨vv,rfl,hvv,hb1⟩
 rw [val_dig] at hvv
 obtain ⟨Av,nv,cv,rfl⟩:=hvv.form
 have hnv:nv=lb:=by rw [hvv.len.1]; exact HN.out.1
 subst hnv
 have HVV:=Lib.hid hvv
 have HB1:=Lib.hid hb1
 clear hvv hb1
 go_wp2_with (at_make; refine wpList_make_words rfl _ _ rfl _ _ _ _ (la+2) (la+2) rfl rfl (by omega) (by omega) (Nat.le_refl _) (by omega) ?_)
 intro w2 hbuf hb2 hz2
 have HBU:=Lib.hid hbuf
 have HB2:=Lib.hid hb2
 clear hz2 hbuf hb2
 go_wp2_with fail
 refine (up_any ((HX0.out.below HB1.out).below HB2.out) (by omega) k (by omega)).mono ?_
 rintro e w3 ⟨va,rfl,hva,hb3⟩
 rw [val_dig] at hva
 obtain ⟨Aa,na,ca',rfl⟩:=hva.form
 have hna:na≤la+2:=by
  rw [hva.len.1]
  refine Nat.le_trans (dig_len_le _ (la+1) ?_) (by omega)
  have h1:=dig_lt a
  rw [← HLA.out] at h1
  have h2:2^k≤2^32:=Nat.pow_le_pow_right (by omega) (by omega)
  rw [Nat.pow_succ]
  exact Nat.mul_lt_mul_of_lt_of_le h1 h2 (by omega)
 obtain ⟨gu,hgu⟩:∃ gu,gu=w1.heap.size:=⟨_,rfl⟩
 rw [← hgu] at HBU
 rw [← hgu]
 have HBU3:=Lib.hid (HBU.out.on hb3)
 have HVA:=Lib.hid hva
 have HB3:=Lib.hid hb3
 have HGU:=Lib.hid hgu
 clear hva hb3 hgu
 go_wp2_with (with_reducible refine wpList_copy_words rfl (.tmp 55) (.tmp 58) rfl gu (la+2) (la+2) _ rfl HBU3.out (by simp) Aa na ca' _ rfl HVA.out hna gu w3 (Below.refl _ _) (Nat.le_refl _) ?_)
 intro w4 hbu4 hb4
 obtain ⟨us0,hus⟩:∃ us0,us0=dig (a*2^k)++List.replicate (la+2-na) 0:=⟨_,rfl⟩
 rw [← hus] at hbu4
 have hus0:val us0=a*2^k:=by rw [hus,val_append,val_zeros,val_dig,Nat.mul_zero,Nat.add_zero]
 have hul0:us0.length=la+2:=by rw [hus,List.length_append,List.length_replicate,← HVA.out.len.1]; omega
 have HUS:=Lib.hid hus0
 have HUL:=Lib.hid hul0
 have HBU4:=Lib.hid hbu4
 have HB4:=Lib.hid hb4
 clear hus hbu4 hb4 hus0 hul0
 go_wp2_with (at_make; refine wpList_make_words rfl _ _ rfl _ _ _ _ (la+2-nv) (la+2-nv) rfl rfl (by omega) (by omega) (Nat.le_refl _) (by omega) ?_)
 intro w5 hbq hb5 hz5
 obtain ⟨gq,hgq⟩:∃ gq,gq=w4.heap.size:=⟨_,rfl⟩
 rw [← hgq] at hbq
 rw [← hgq]
 have HGQ:=Lib.hid hgq
 have HBQ:=Lib.hid hbq
 have HB5:=Lib.hid hb5
 clear hgq hz5 hbq hb5
 have hb45:Below w.heap.size w w5:=by
  have s0:=HB0.out.size
  have s1:=HB1.out.size
  have s2:=HB2.out.size
  have s3:=HB3.out.size
  have s4:=HB4.out.size
  have e0:(w.drewN kk).heap.size=w.heap.size:=rfl
  rw [e0] at s0
  refine (((((Below.drewN_ (Below.refl _ _) kk).trans HB0.out).trans (HB1.out.mono (by omega))).trans (HB2.out.mono (by omega))).trans (HB3.out.mono (by omega))).trans ((HB4.out.mono ?_).trans (HB5.out.mono (by omega)))
  rw [HGU.out]; omega
 have hguq:gu<gq:=by rw [HGQ.out]; exact HBU4.out.lt
 have hBgu:w.heap.size≤gu:=by
  rw [HGU.out]
  have s0:=HB0.out.size
  have s1:=HB1.out.size
  have e0:(w.drewN kk).heap.size=w.heap.size:=rfl
  rw [e0] at s0
  omega
 have HNE:Hid (∀ b o,Av=some ⟨b,o,none⟩→b<gu):=by
  intro b o hA; rw [HGU.out]; exact HVV.out.lt (by omega) b o hA
 have HVV5:Hid (Words w5 (.slice Av nv cv) (dig (b*2^k))):=(((HVV.out.below HB2.out).below HB3.out).under HB4.out HNE.out).below HB5.out
 have HBU5:=Lib.hid (HBU4.out.on HB5.out)
 have HN1:=Lib.hid HN.out.1
 have HN2:=Lib.hid HN.out.2.1
 obtain ⟨V,hV⟩:∃ V,V=b*2^k:=⟨_,rfl⟩
 have hD:=Div.first2 us0 a (b*2^k) k la nv (by have:=dig_lt a; rw [← HLA.out] at this; exact this) HUS.out HUL.out (by omega) hlab hk HN.out.2.2
 have HVlt:Hid (b*2^k<4294967296^nv):=by
  have:=dig_lt (b*2^k)
  rw [HN1.out] at this
  exact this
 rw [← hV] at HVV5 HN1 HN2 hD HVlt
 have HD:=Lib.hid hD
 have HVE:=Lib.hid hV
 have HBv:=Lib.hid hb45
 have hwsz:=HBv.out.size
 have HVP:Hid (0<V):=by
  have h1:=HN1.out
  rcases Nat.eq_zero_or_pos V with h | h
  · rw [h,dig_zero] at h1; simp at h1; omega
  · exact h
 clear hD hV hb45 HX HY HXd HYd HX0 HY0 HVV HBU HBU3 HBU4 HVA HB0 HB1 HB2 HB3 HB4 HB5 HN HT HR
 go_wp2
 go_loopw [13] (fun i wr=>∃ (j:Nat) (us qs:List Nat),j≤la+2-nv∧i=.int .i64 ((j:Int)-1)∧Hid (Div us0 us qs V j (la+2) nv)∧Hid (Buf wr gu us)∧Hid (Buf wr gq qs)∧Hid (Words wr (.slice Av nv cv) (dig V))∧Hid (Below w.heap.size w wr)) (fun i _=>(intOf i+1).toNat)
 case atStart=>exact ⟨la+2-nv,us0,List.replicate (la+2-nv) 0,by omega,by go_num,HD,HBU5,HBQ,HVV5,HBv⟩
 case round =>
  obtain ⟨j,us,qs,hj,rfl,hd,hbu,hbq,hvw,hbel⟩:=hrel
  clear HD HBU5 HBQ HVV5 HBv
  by_cases hj0:0<j
  · obtain ⟨j,rfl⟩:∃ j',j=j'+1:=⟨j-1,by omega⟩
    have e1:((j+1:Nat):Int)-1=(j:Int):=by omega
    rw [e1]
    clear e1
    have hlu:=Lib.hid hd.out.lu
    have hlq:=Lib.hid hd.out.lq
    have hwu:=Lib.hid hbu.out.1
    have HW:=Lib.hid (hd.out.window hwu.out HVlt.out (by omega))
    obtain ⟨mid,hmid⟩:∃ mid,mid=(us.drop j).take (nv+1):=⟨_,rfl⟩
    obtain ⟨x0,hx0⟩:∃ x,x=us.getD (j+nv) 0:=⟨_,rfl⟩
    obtain ⟨x1,hx1⟩:∃ x,x=us.getD (j+nv-1) 0:=⟨_,rfl⟩
    obtain ⟨v1,hv1⟩:∃ x,x=(dig V).getD (nv-1) 0:=⟨_,rfl⟩
    obtain ⟨bv,ov,rfl,hcv⟩:=hvw.out.open_ (by omega)
    have c0:=hbu.out.cell (j+nv) (by rw [hlu.out]; omega)
    have c1:=hbu.out.cell (j+nv-1) (by rw [hlu.out]; omega)
    rw [← hx0] at c0
    rw [← hx1] at c1
    have c3:wr.cell? ⟨bv,ov+(nv-1),none⟩=some (.int .u32 (v1:Int)):=by rw [hv1]; exact hcv (nv-1) (by omega)
    have b0:x0<4294967296:=by rw [hx0]; exact hwu.out.getD _
    have b1:x1<4294967296:=by rw [hx1]; exact hwu.out.getD _
    have b3:v1<4294967296:=by rw [hv1]; exact (Wf_dig V).getD _
    have b3':2147483648≤v1:=by rw [hv1]; exact HN2.out
    obtain ⟨top,htop⟩:∃ top,top=x0*4294967296+x1:=⟨_,rfl⟩
    have hti:(x0:Int)*4294967296+(x1:Int)=(top:Int):=by omega
    have hxb:(x0:Int)*4294967296≤18446744069414584320:=by omega
    have htb:top≤18446744073709551615:=by omega
    obtain ⟨q0,hq0⟩:∃ q0,q0=min (top/v1) 4294967295:=⟨_,rfl⟩
    obtain ⟨tq,htq⟩:∃ tq,tq=top/v1:=⟨_,rfl⟩
    have htqi:(top:Int)/(v1:Int)=(tq:Int):=by rw [htq]; rfl
    have htqb:tq≤18446744073709551615:=by rw [htq]; exact Nat.le_trans (Nat.div_le_self _ _) htb
    have HG0:Hid (val mid<(q0+1)*V):=by
     rw [Hid,hq0,hmid]
     have hw5:=HW.out.2.2.1
     refine guess_first (P:=4294967296^(nv-1)) ?_ ?_ (by omega) HVP.out HW.out.2.2.2.2.2
     · have h1:=val_take_succ ((us.drop j).take (nv+1)) nv (by omega)
       have h2:=val_take_succ ((us.drop j).take (nv+1)) (nv-1) (by omega)
       rw [show nv-1+1=nv by omega] at h2
       rw [val_take_all _ _ (by omega)] at h1
       have h3:=val_lt (((us.drop j).take (nv+1)).take (nv-1)) (((hwu.out.drop j).take _).take _)
       rw [List.length_take,Nat.min_eq_left (by omega)] at h3
       have e4:((us.drop j).take (nv+1)).getD nv 0=x0:=by rw [hx0]; simp [List.getD,List.getElem?_take]
       have e5:((us.drop j).take (nv+1)).getD (nv-1) 0=x1:=by rw [hx1,show j+nv-1=j+(nv-1) by omega]; simp [List.getD,List.getElem?_take,show nv-1<nv+1 by omega]
       rw [e4] at h1
       rw [e5] at h2
       have e6:4294967296^nv=4294967296^(nv-1)*4294967296:=by rw [← Nat.pow_succ]; congr 1; omega
       rw [h1,h2,htop,e6]
       generalize 4294967296^(nv-1)=P at *
       generalize val (((us.drop j).take (nv+1)).take (nv-1))=lo at *
       have e7:(x0*4294967296+x1+1)*P=P*x1+P*4294967296*x0+P:=by
        rw [Nat.add_mul,Nat.add_mul,Nat.one_mul,Nat.mul_comm x1,Nat.mul_comm (x0*4294967296),Nat.mul_comm x0,← Nat.mul_assoc]
        omega
       omega
     · have h1:=val_take_succ (dig V) (nv-1) (by have:=HN1.out; omega)
       rw [show nv-1+1=nv by omega,val_take_all _ _ (by have:=HN1.out; omega),val_dig,← hv1] at h1
       rw [Nat.mul_comm]
       omega
    have hcase:(4294967295<tq∧q0=4294967295)∨(tq≤4294967295∧q0=tq):=by
     rw [hq0,← htq]
     omega
    have HTOP:=Lib.hid htop
    have HMID:=Lib.hid hmid
    have i1:(0:Int)≤(j:Int)+(nv:Int):=by omega
    have i2:(j:Int)+(nv:Int)<(la:Int)+2:=by omega
    have i3:(0:Int)≤(j:Int)+(nv:Int)-1:=by omega
    have i4:(j:Int)+(nv:Int)-1<(la:Int)+2:=by omega
    have i5:(0:Int)≤(nv:Int)-1:=by omega
    have hv11:(1:Int)≤(v1:Int):=by omega
    clear hcv hx0 hx1 hv1 htop hq0 htq hmid
    obtain ⟨wo,rfl⟩:∃ wo:World,wo=wr:=⟨_,rfl⟩
    have hnvb:nv≤4294967296:=by omega
    have hlab2:j+nv+1≤la+2:=by omega
    have hlab3:la+2≤8589934592:=by omega
    rcases hcase with ⟨hcs,rfl⟩ | ⟨hcs,rfl⟩
    all_goals
     first
      | have hci:(4294967295:Int)<(tq:Int):=by omega
      | have hci:(q0:Int)≤4294967295:=by omega
     go_wp2
     go_quiet (fail)
     go_wp2
     clear c0 c1 c3 hti hxb htqi hci i1 i2 i3 i4 i5 hv11
     go_loopw [15] (fun qv wr=>∃ (q:Nat),q<4294967296∧qv=.int .u64 (q:Int)∧Hid (val mid<(q+1)*V)∧Hid (Below wo.heap.size wo wr)) (fun qv _=>(intOf qv).toNat)
     case atStart=>exact ⟨_,by first | exact Nat.lt_succ_of_le hcs | decide | omega,by first | rfl | go_num,HG0,Below.drewN_ (Below.refl _ _) _⟩
     case round =>
      obtain ⟨q,hqb,rfl,hqv,hbo⟩:=hrel
      by_cases hf:q*V≤val mid
      · go_wp2_with fail
        refine (fits_any (hvw.out.below hbo.out) (hbu.out.on hbo.out) hlu.out hlab3 hlab2 hnvb hqb true (by rw [← HMID.out]; simpa using hf)).mono ?_
        rintro e w6 ⟨rfl,hb6⟩
        have HB6:=Lib.hid (hbo.out.trans (hb6.mono hbo.out.size))
        have HBQ6:=Lib.hid (hbq.out.on HB6.out)
        have HBU6:=Lib.hid (hbu.out.on HB6.out)
        have HVW6:=Lib.hid (hvw.out.below HB6.out)
        have HBEL6:=Lib.hid (hbel.out.trans (HB6.out.mono hbel.out.size))
        have hst:=HBQ6.out.cell j (by rw [hlq.out]; omega)
        have hfz:=HBQ6.out.frozen j
        have hgq6:=HBQ6.out.lt
        have HQF:=Lib.hid hf
        have hjq:j<la+2-nv:=by omega
        clear hb6 hf hst hfz
        have hst:w6.cell? ⟨gq,j,none⟩=some (.int .u32 (qs.getD j 0:Nat)):=HBQ6.out.cell j (by rw [hlq.out]; omega)
        have hfz:=HBQ6.out.frozen j
        have hset:=HBQ6.out.set j q (q:Int) hqb rfl
        have honly:Only gq w6 (w6.setCell ⟨gq,j,none⟩ (.int .u32 (q:Int))):=(Only.refl gq w6).set j _
        have HBQ7:=Lib.hid hset
        have HBU7:=Lib.hid (HBU6.out.only honly (by omega))
        have HVW7:=Lib.hid (Only.words HVW6.out honly (fun b o hA=>by have:=HNE.out b o hA; omega))
        have HBEL7:=Lib.hid (HBEL6.out.setCell (show w.heap.size≤gq by omega) (p:=⟨gq,j,none⟩) (.int .u32 (q:Int)))
        have hgq7:gq<(w6.setCell ⟨gq,j,none⟩ (.int .u32 (q:Int))).heap.size:=hset.lt
        have hgu7:=HBU7.out.lt
        clear hset honly HBQ6 HBU6 HVW6 HBEL6 HB6
        go_wp2
        generalize w6.setCell ⟨gq,j,none⟩ (.int .u32 (q:Int))=w7 at HBQ7 HBU7 HVW7 HBEL7 hgq7 hgu7 ⊢
        clear hst hfz hbo hbu hbq hvw hbel
        obtain ⟨pre,hpre⟩:∃ pre,pre=us.take j:=⟨_,rfl⟩
        obtain ⟨post,hpost⟩:∃ post,post=us.drop (j+nv+1):=⟨_,rfl⟩
        have HPL:Hid (pre.length=j):=by rw [hpre]; exact HW.out.2.1
        have HML:Hid (mid.length=nv+1):=by rw [HMID.out]; exact HW.out.2.2.1
        have HUW:Hid (us=pre++(mid++post)):=by rw [hpre,hpost,HMID.out]; exact HW.out.1
        have HPRE:=Lib.hid hpre
        have HPOST:=Lib.hid hpost
        clear hpre hpost
        go_loopw [16,17,18] (fun bv' cv' iv wr=>∃ (k c b:Nat) (ms:List Nat),k≤nv+1∧c<4294967296∧b≤1∧bv'=.int .u64 (b:Int)∧cv'=.int .u64 (c:Int)∧iv=.int .i64 (k:Int)∧Hid (ms.length=k)∧Hid (val ms+q*val ((dig V).take k)=val (mid.take k)+4294967296^k*(b+c))∧Hid (Buf wr gu (pre++((ms++mid.drop k)++post)))∧Hid (Only gu w7 wr)) (fun _ _ iv _=>nv+1-(intOf iv).toNat)
        case atStart =>
         refine ⟨0,0,0,[],by omega,by omega,by omega,rfl,rfl,rfl,rfl,by simp [Hid,val],?_,Only.refl _ _⟩
         rw [List.nil_append,List.drop_zero,Hid,← HUW.out]
         exact HBU7.out
        case round =>
         obtain ⟨k,c,b',ms,hk,hc,hb',rfl,rfl,rfl,HK,HE,hbuf,ho⟩:=hrel
         by_cases hk1:k<nv+1
         · have hvw8:=Only.words HVW7.out ho.out (fun b o hA=>by have:=HNE.out b o hA; omega)
           obtain ⟨x,hx⟩:∃ x,x=mid.getD k 0:=⟨_,rfl⟩
           obtain ⟨y,hy⟩:∃ y,y=(dig V).getD k 0:=⟨_,rfl⟩
           have hx32:x<4294967296:=by rw [hx,HMID.out]; exact ((hwu.out.drop j).take _).getD k
           have hy32:y<4294967296:=by rw [hy]; exact (Wf_dig V).getD k
           have hcell:=hbuf.out.cell (j+k) (by rw [mid_len pre ms mid post k HK.out (by rw [HML.out]; omega),HPL.out,HML.out]; omega)
           have hfz:=hbuf.out.frozen (j+k)
           have hg:=mid_get pre ms mid post k HK.out (by rw [HML.out]; omega)
           rw [HPL.out] at hg
           rw [hg,← hx] at hcell
           clear hg
           obtain ⟨m,hm⟩:∃ m,m=q*y:=⟨_,rfl⟩
           have hmi:(q:Int)*(y:Int)=(m:Int):=by rw [hm]; exact (Int.natCast_mul _ _).symm
           have hcar:=step_carry q y c hqb hy32 hc
           rw [← hm] at hcar
           obtain ⟨hc1,hc2⟩:=hcar
           obtain ⟨t,ht⟩:∃ t,t=c+m:=⟨_,rfl⟩
           have hti:(c:Int)+(m:Int)=(t:Int):=by omega
           rw [← ht] at hc1 hc2
           obtain ⟨lo,hlo⟩:∃ lo,lo=t % 4294967296:=⟨_,rfl⟩
           have hloi:(t:Int) % 4294967296=(lo:Int):=by omega
           have hlob:lo<4294967296:=by omega
           obtain ⟨X,hX⟩:∃ X,X=4294967296+x-lo-b':=⟨_,rfl⟩
           have hXi:4294967296+(x:Int)-(lo:Int)-(b':Int)=(X:Int):=by omega
           have hXb:X≤8589934591:=by omega
           have HXX:=Lib.hid hX
           have HX:=Lib.hid hx
           have HY:=Lib.hid hy
           have HM:=Lib.hid hm
           have HT:=Lib.hid ht
           have HLO:=Lib.hid hlo
           have HV8:=Lib.hid hvw8
           have hszz:=hbuf.out.lt
           have hki:(k:Int)+(j:Int)=((j+k:Nat):Int):=by omega
           clear hvw8 hx hy hm ht hlo hX
           go_wp2_with fail
           refine (at_any HV8.out k (by omega)).mono ?_
           rintro e w8 ⟨rfl,rfl⟩
           rw [← HY.out]
           go_wp2
           go_roundw
           case rel =>
            refine ⟨k+1,t/4294967296,1-X/4294967296,ms++[X % 4294967296],by omega,hc2,by omega,by go_num,by go_num,by go_num,?_,?_,?_,ho.out.set _ _⟩
            · rw [Hid,List.length_append,HK.out]; rfl
            · exact step_val mid (dig V) ms k q c b' (X % 4294967296) (1-X/4294967296) t HK.out HE.out (by rw [HT.out,HM.out,HY.out]) (by rw [← HLO.out,← HX.out]; have:=HXX.out; omega)
            · have h:=hbuf.out.set (j+k) (X % 4294967296) ((X:Int) % 4294967296) (by omega) (by omega)
              have h2:=mid_set pre ms mid post k (X % 4294967296) HK.out (by rw [HML.out]; omega)
              rw [HPL.out] at h2
              rw [h2] at h
              first | exact h | (rw [Nat.add_comm k j]; exact h)
           case measure=>simp [intOf]; omega
         · obtain rfl:k=nv+1:=by omega
           have hfin:=take_end (U:=val mid) hbuf.out.1.right.left.left HK.out (by
            have h:=HE.out
            rwa [val_take_all (dig V) (nv+1) (by have:=HN1.out; omega),val_dig,val_take_all mid (nv+1) (by rw [HML.out]; exact Nat.le_refl _)] at h) HQF.out hqv.out
           have hnx:=Lib.hid (hd.out.next (q:=q) (ms:=ms) hwu.out HVlt.out (by omega) HUL.out (by rw [HK.out,← HMID.out,HML.out]) (by rw [← HMID.out]; exact hfin.1) hfin.2)
           have hbuf2:=hbuf.out
           rw [List.drop_of_length_le (show mid.length≤nv+1 by rw [HML.out]; exact Nat.le_refl _),List.append_nil,HPRE.out,HPOST.out] at hbuf2
           have HBUF2:=Lib.hid hbuf2
           have HBQ9:=Lib.hid (HBQ7.out.only ho.out (by omega))
           have HVW9:=Lib.hid (Only.words HVW7.out ho.out (fun b o hA=>by have:=HNE.out b o hA; omega))
           have HBEL9:=Lib.hid (HBEL7.out.trans (ho.out.below hBgu HBEL7.out.size))
           clear hfin hbuf2
           go_wp2
           go_roundw
           case rel=>exact ⟨j,_,_,by omega,by go_num,hnx,HBUF2,HBQ9,HVW9,HBEL9⟩
           case measure=>simp [intOf]
      · have hq1:1≤q:=by
         rcases Nat.eq_zero_or_pos q with h | h
         · subst h; simp at hf
         · exact h
        have HQF:=Lib.hid (Nat.not_le.1 hf)
        go_wp2_with fail
        refine (fits_any (hvw.out.below hbo.out) (hbu.out.on hbo.out) hlu.out hlab3 hlab2 hnvb hqb false (by rw [← HMID.out]; simpa using hf)).mono ?_
        rintro e w6 ⟨rfl,hb6⟩
        have HB6:=Lib.hid (hbo.out.trans (hb6.mono hbo.out.size))
        clear hb6 hf
        go_wp2
        go_roundw
        case rel=>exact ⟨q-1,by omega,by go_num,by rw [Hid,Nat.sub_add_cancel hq1]; exact HQF.out,HB6⟩
        case measure=>simp [intOf]; omega
  · obtain rfl:j=0:=by omega
    have HLAST:=Lib.hid (Div.last2 (b:=b) (k:=k) (L:=la+2) (n:=nv) (us0:=us0) (us:=us) (qs:=qs) (by rw [← HVE.out]; exact hd.out) HUS.out)
    have hlu:=Lib.hid hd.out.lu
    have hlq:=Lib.hid hd.out.lq
    have hbw:=hbu.out.words (cap:=la+2) (by rw [hlu.out]; omega) (by rw [hlu.out]; exact Nat.le_refl _)
    have hqw:=hbq.out.words (cap:=la+2-nv) (by rw [hlq.out]; omega) (by rw [hlq.out]; exact Nat.le_refl _)
    rw [hlq.out] at hqw
    rw [hlu.out] at hbw
    have HBW:=Lib.hid hbw
    have HQW:=Lib.hid hqw
    clear hbw hqw
    go_wp2_with fail
    refine (rcut_any HQW.out).mono ?_
    rintro e w7 ⟨rfl,rfl⟩
    go_wp2_with fail
    refine (rcut_any HBW.out).mono ?_
    rintro e w8 ⟨rfl,rfl⟩
    have HBT:=Lib.hid HBW.out.trim_
    have hbtl:(trim us).length≤17179869184:=HBT.out.2.1
    go_wp2_with fail
    refine (down_any HBT.out hbtl k (by omega)).mono ?_
    rintro e w9 ⟨vr,rfl,hvr,hb9⟩
    have HVR:=Lib.hid hvr
    have HB9:=Lib.hid hb9
    clear hvr hb9
    go_wp2
    go_ret2
    refine ⟨.slice (some ⟨gq,0,none⟩) (trim qs).length (la+2-nv),vr,rfl,?_,?_,hbel.out.trans (HB9.out.mono hbel.out.size)⟩
    · rw [← dig_of qs _ HQW.out.1 HLAST.out.1]
      exact HQW.out.trim_.below HB9.out
    · have:=HVR.out
      rw [val_trim,HLAST.out.2] at this
      exact this
theorem divided_any {A B:Option Addr} {la ca lb cb a b:Nat} {w:World} (hx:Words w (.slice A la ca) (dig a)) (hy:Words w (.slice B lb cb) (dig b)) (hb:0<b) (hla:la≤4294967296) :
  Calls Tryz.prog 334 #[.slice A la ca,.slice B lb cb] w (DivPost w a b):=by
 rcases Nat.lt_or_ge a b with h | h
 · exact divided_small hx hy h
 · have hl:=hy.len.1
   have hp:0<(dig b).length:=by rw [dig_pos b hb]; simp
   rcases (by omega:lb=1∨2≤lb) with h1 | h1
   · subst h1
     exact divided_word hx hy h
   · exact divided_long hx hy h h1 hla
theorem BoxAt.new_at {w:World} {n:Nat} (cs:Array Value) (t:TypeId) (hn:n=w.heap.size):BoxAt (w.alloc (.cells cs t)) n cs t:=hn▸BoxAt.new w cs t
theorem BoxAt.put4 {w:World} {g:Nat} {a0 a1 a2 a3:Value} {T:TypeId} (h:BoxAt w g #[a0,a1,a2,a3] T) (v0 v1 v2 v3:Value) :
  BoxAt ((((w.setCell ⟨g,0,none⟩ v0).setCell ⟨g,1,none⟩ v1).setCell ⟨g,2,none⟩ v2).setCell ⟨g,3,none⟩ v3) g #[v0,v1,v2,v3] T:=(((h.set 0 v0).set 1 v1).set 2 v2).set 3 v3
theorem below_put4 {w0 w:World} {g B:Nat} (h:Below B w0 w) (hg:B≤g) (v0 v1 v2 v3:Value):Below B w0 ((((w.setCell ⟨g,0,none⟩ v0).setCell ⟨g,1,none⟩ v1).setCell ⟨g,2,none⟩ v2).setCell ⟨g,3,none⟩ v3) :=
 (((h.setCell hg _).setCell hg _).setCell hg _).setCell hg _
instance (q:Rat):Decidable (Fit q):=inferInstanceAs (Decidable (_∧_))
def ansK (q:Rat):Int:=if Fit q then 0 else 4
theorem below_alloc_ {w0 w:World} (h:Below w0.heap.size w0 w) (o:Obj):Below w0.heap.size w0 (w.alloc o):=h.trans ((below_new w o).mono h.size)
theorem below_put2 {w0 w:World} {g B:Nat} (h:Below B w0 w) (hg:B≤g) (v0 v1:Value):Below B w0 ((w.setCell ⟨g,0,none⟩ v0).setCell ⟨g,1,none⟩ v1) :=
 (h.setCell hg _).setCell hg _
def Frames (w:World) (l:List (Nat × Array Value × TypeId)):Prop:=∀ x∈l,BoxAt w x.1 x.2.1 x.2.2
theorem Frames.nil (w:World):Frames w []:=fun _ h=>nomatch h
theorem Frames.on {w w':World} {l:List (Nat × Array Value × TypeId)} (h:Frames w l) (k:Below w.heap.size w w'):Frames w' l:=fun x hx=>(h x hx).on k
theorem Frames.push {w:World} {l:List (Nat × Array Value × TypeId)} (h:Frames w l) (n:Nat) (cs:Array Value) (t:TypeId) (hn:n=w.heap.size):Frames (w.alloc (.cells cs t)) ((n,cs,t)::l):=by
 intro x hx
 rcases List.mem_cons.1 hx with rfl | hx
 · exact BoxAt.new_at cs t hn
 · exact (h x hx).on (below_new w _)
theorem Frames.get {w:World} {l:List (Nat × Array Value × TypeId)} (h:Frames w l) (i:Nat) {x:Nat × Array Value × TypeId} (hx:l[i]?=some x):BoxAt w x.1 x.2.1 x.2.2:=h x (List.mem_of_getElem? hx)
theorem str_empty {s:ByteArray} {n:Nat} (h:s=mag n):s.size=0↔n=0:=by
 rw [h,mag_size]
 exact List.length_eq_zero_iff.trans (led_nil_iff n)
theorem rsign_any {w:World} (p:Bool) (s:ByteArray) (n:Int) (hp:p=decide (n<0)) (hs:s=mag n.natAbs) :
  Calls Tryz.prog 256 #[.agg #[.bool p,.string s]] w fun e w'=>e=.returned (.int .i64 n.sign)∧Below w.heap.size w w':=by
 have HB:=Lib.hid (below_new w (.cells #[.bool p,.string s] 23))
 have HP:=Lib.hid hp
 have HE:=Lib.hid (str_empty hs)
 clear hp hs
 by_cases h0:s.size=0
 · obtain rfl:=empty_data h0
   have HN:Hid (n=0):=by have:=HE.out.1 h0; unfold Hid; omega
   clear h0
   go_enter Tryz.func256,Tryz.ntmps256
   go_wp2
   go_ret
   exact ⟨by rw [HN.out]; rfl,HB.out⟩
 · obtain ⟨hE,hE2⟩:=toList_some h0
   have HN:Hid (n≠0):=fun e=>h0 (HE.out.2 (by rw [e]; rfl))
   clear h0
   cases p
   · go_enter Tryz.func256,Tryz.ntmps256
     go_wp2
     go_ret
     refine ⟨?_,HB.out⟩
     have h1:¬ n<0:=of_decide_eq_false HP.out.symm
     have h2:=HN.out
     rw [Int.sign_eq_one_of_pos (by omega)]
     rfl
   · go_enter Tryz.func256,Tryz.ntmps256
     go_wp2
     go_ret
     refine ⟨?_,HB.out⟩
     have h1:n<0:=of_decide_eq_true HP.out.symm
     rw [Int.sign_eq_neg_one_of_neg h1]
     rfl
def FormedB (p:Bool) (s:ByteArray):Prop:=s.size=0∧p=false∨s.size≠0∧head s≠0
theorem rneg_any {w:World} (p:Bool) (s:ByteArray) (n:Int) (hp:p=decide (n<0)) (hs:s=mag n.natAbs) :
  Calls Tryz.prog 261 #[.agg #[.bool p,.string s]] w fun e w'=>∃ q t,e=.returned (.agg #[.bool q,.string t])∧Hid (q=decide (-n<0))∧Hid (t=mag (-n).natAbs)∧Below w.heap.size w w':=by
 have h1:=below_new w (.cells #[.bool p,.string s] 23)
 have h2:=below_new (w.alloc (.cells #[.bool p,.string s] 23)) (.cells #[.bool false,.string ⟨#[]⟩] 23)
 have HB:=Lib.hid (h1.trans (h2.mono h1.size))
 have HC:=Lib.hid (BoxAt.new_at (w:=w.alloc (.cells #[.bool p,.string s] 23)) (n:=w.heap.size+1) #[.bool false,.string ⟨#[]⟩] 23 (size_alloc w _).symm)
 obtain ⟨q,hq⟩:∃ q,q=decide (-n<0):=⟨_,rfl⟩
 have HQ:=Lib.hid hq
 have HT:Hid (s=mag (-n).natAbs):=by rw [Hid,Int.natAbs_neg]; exact hs
 have HE:=Lib.hid (str_empty hs)
 have hp0:=HC.out.cell 0 _ rfl
 have hp1:=HC.out.cell 1 _ rfl
 have hf:=HC.out.frozen
 have HP:=Lib.hid hp
 clear hp hs h1 h2 hq
 by_cases h0:s.size=0
 · obtain rfl:=empty_data h0
   have hn:n=0:=by have:=HE.out.1 h0; omega
   have hpf:p=false:=by rw [HP.out,hn]; rfl
   have hqf:q=false:=by rw [HQ.out,hn]; rfl
   subst hpf
   subst hqf
   clear h0 hn
   go_enter Tryz.func261,Tryz.ntmps261
   go_wp2
   have hk:=(HC.out.set 0 (.bool false)).set 1 (.string ⟨#[]⟩)
   have k0:=hk.cell 0 _ rfl
   have k1:=hk.cell 1 _ rfl
   exact bodyPost_ret (v:=.agg #[.bool false,.string ⟨#[]⟩]) (by simp [results,Tryz.results261,go_sem,k0,k1]) rfl ⟨_,_,rfl,HQ,HT,by first | exact HB.out | exact below_alloc_ (below_new w _) _⟩
 · obtain ⟨hE,hE2⟩:=toList_some h0
   have hn:n≠0:=fun e=>h0 (HE.out.2 (by rw [e]; rfl))
   have hpq:p=!q:=by
    rw [HP.out,HQ.out]
    by_cases h1:n<0
    · rw [decide_eq_true h1,decide_eq_false (by omega)]; rfl
    · rw [decide_eq_false h1,decide_eq_true (by omega)]; rfl
   subst hpq
   clear h0 hn
   cases q
   all_goals
    go_enter Tryz.func261,Tryz.ntmps261
    go_wp2
   · have hk:=(HC.out.set 0 (.bool false)).set 1 (.string s)
     have k0:=hk.cell 0 _ rfl
     have k1:=hk.cell 1 _ rfl
     exact bodyPost_ret (v:=.agg #[.bool false,.string s]) (by simp [results,Tryz.results261,go_sem,k0,k1]) rfl ⟨_,_,rfl,HQ,HT,by first | exact HB.out | exact below_alloc_ (below_new w _) _⟩
   · have hk:=(HC.out.set 0 (.bool true)).set 1 (.string s)
     have k0:=hk.cell 0 _ rfl
     have k1:=hk.cell 1 _ rfl
     exact bodyPost_ret (v:=.agg #[.bool true,.string s]) (by simp [results,Tryz.results261,go_sem,k0,k1]) rfl ⟨_,_,rfl,HQ,HT,by first | exact HB.out | exact below_alloc_ (below_new w _) _⟩
theorem len_mag {s:ByteArray} {N:Nat} (hs:s=mag N) (h:s.size≤1000000000):(dig N).length≤250000001:=by
 have:=wl_size (n:=N) (k:=1000000000) (by rw [← hs]; exact h)
 omega
set_option maxHeartbeats 3200000 in
set_option maxRecDepth 100000 in
theorem rgcd_any {w0:World} (p q:Bool) (s t:ByteArray) (N M:Nat) (hs:s=mag N) (ht:t=mag M) (h1:s.size≤1000000000) (h2:t.size≤1000000000) :
  Calls Tryz.prog 257 #[.agg #[.bool p,.string s],.agg #[.bool q,.string t]] w0 fun e w'=>∃ g,e=.returned (.agg #[.bool false,.string g])∧Hid (g=mag (Nat.gcd N M))∧Below w0.heap.size w0 w':=by
 have hf0:=((Frames.nil w0).push w0.heap.size #[.bool p,.string s] 23 rfl).push (w0.heap.size+1) #[.bool q,.string t] 23 (by simp)
 have hf1:=hf0.push (w0.heap.size+1+1) #[.bool false,.string ⟨#[]⟩] 23 (by simp)
 have HB:=Lib.hid (below_alloc_ (below_alloc_ (below_new w0 (.cells #[.bool p,.string s] 23)) (.cells #[.bool q,.string t] 23)) (.cells #[.bool false,.string ⟨#[]⟩] 23))
 have HF:=Lib.hid hf1
 have HS:=Lib.hid hs
 have HT:=Lib.hid ht
 have KN:Hid ((dig N).length≤250000001):=len_mag hs h1
 have KM:Hid ((dig M).length≤250000001):=len_mag ht h2
 have H1:Hid (s.size≤4294967296):=Nat.le_trans h1 (by decide)
 have H2:Hid (t.size≤4294967296):=Nat.le_trans h2 (by decide)
 clear hs ht h1 h2 hf0 hf1
 go_enter Tryz.func257,Tryz.ntmps257
 go_wp2
 generalize ((w0.alloc (.cells #[.bool p,.string s] 23)).alloc (.cells #[.bool q,.string t] 23)).alloc (.cells #[.bool false,.string ⟨#[]⟩] 23)=w1 at HB HF ⊢
 refine wp_region_acts 6 (fun w'=>Below w0.heap.size w0 w'∧Frames w' [(w0.heap.size+1+1,#[.bool false,.string ⟨#[]⟩],23),(w0.heap.size+1,#[.bool q,.string t],23),(w0.heap.size,#[.bool p,.string s],23)]) (fun w w'=>Below w.heap.size w w') (fun i w v=>match i with
   | 0=>v=.pointer (some ⟨w0.heap.size,1,none⟩)
   | 1=>v=.string s
   | 2=>∃ A c,v=.slice A (dig N).length c∧Words w (.slice A (dig N).length c) (dig N)
   | 3=>v=.pointer (some ⟨w0.heap.size+1,1,none⟩)
   | 4=>v=.string t
   | _=>∃ A c,v=.slice A (dig M).length c∧Words w (.slice A (dig M).length c) (dig M)) (by kernel_rfl) (by kernel_rfl) (by kernel_rfl) ⟨HB.out.drew,HF.out.on (Below.drew (Below.refl _ _))⟩ (fun _ _=>(Below.refl _ _)) ?_ ⟨?_,?_,?_,?_,?_,?_,trivial⟩ ?_
 · intro i w1 w2 v hC hC2 hE hV
   match i with
   | 0=>exact hV
   | 1=>exact hV
   | 2=>obtain ⟨A,c,e,h⟩:=hV; exact ⟨A,c,e,h.below hE⟩
   | 3=>exact hV
   | 4=>exact hV
   | _+5=>obtain ⟨A,c,e,h⟩:=hV; exact ⟨A,c,e,h.below hE⟩
 · intro a' w' hag hC hd K hK
   have e2:a'.tmps.getD 2 undef=.pointer (some ⟨w0.heap.size,0,none⟩):=hag 2 rfl
   go_step
   exact hK _ _ hC ((Below.refl _ _)) rfl
 · intro a' w' hag hC hd K hK
   have e9:a'.tmps.getD 9 undef=.pointer (some ⟨w0.heap.size,1,none⟩):=hd.1
   have hc0:=(hC.2.get 2 rfl).cell 1 (.string s) rfl
   have HK:=Lib.hid (hK (.string s) _ hC (Below.refl _ _) rfl)
   clear hK hC
   go_step
   exact HK.out
 · intro a' w' hag hC hd K hK
   have e10:a'.tmps.getD 10 undef=.string s:=hd.1
   go_step
   refine (words_any s N HS.out H1.out).mono ?_
   rintro e w2 ⟨A,c,rfl,h1,h2⟩
   exact hK _ _ ⟨hC.1.trans (h2.mono hC.1.size),hC.2.on h2⟩ h2 ⟨_,_,rfl,h1⟩
 · intro a' w' hag hC hd K hK
   have e3:a'.tmps.getD 3 undef=.pointer (some ⟨w0.heap.size+1,0,none⟩):=hag 3 rfl
   go_step
   exact hK _ _ hC ((Below.refl _ _)) rfl
 · intro a' w' hag hC hd K hK
   have e12:a'.tmps.getD 12 undef=.pointer (some ⟨w0.heap.size+1,1,none⟩):=hd.1
   have hc0:=(hC.2.get 1 rfl).cell 1 (.string t) rfl
   have HK:=Lib.hid (hK (.string t) _ hC (Below.refl _ _) rfl)
   clear hK hC
   go_step
   exact HK.out
 · intro a' w' hag hC hd K hK
   have e13:a'.tmps.getD 13 undef=.string t:=hd.1
   go_step
   refine (words_any t M HT.out H2.out).mono ?_
   rintro e w2 ⟨A,c,rfl,h1,h2⟩
   exact hK _ _ ⟨hC.1.trans (h2.mono hC.1.size),hC.2.on h2⟩ h2 ⟨_,_,rfl,h1⟩
 · intro u w' hC hall
   obtain ⟨u0,u1,u2,u3,u4,u5,_⟩:=hall
   have u0:u 0=.pointer (some ⟨w0.heap.size,1,none⟩):=u0
   have u1:u 1=.string s:=u1
   obtain ⟨A11,c11,eu2,h11⟩:=u2
   have u2:u 2=.slice A11 (dig N).length c11:=eu2
   have u3:u 3=.pointer (some ⟨w0.heap.size+1,1,none⟩):=u3
   have u4:u 4=.string t:=u4
   obtain ⟨A14,c14,eu5,h14⟩:=u5
   have u5:u 5=.slice A14 (dig M).length c14:=eu5
   simp only [fillR,List.take_succ_cons,List.take_zero,Act.put,List.setIfInBounds_toArray,List.set_cons_succ,List.set_cons_zero,Nat.zero_add,Nat.reduceAdd,u0,u1,u2,u3,u4,u5]
   clear u0 u1 u2 u3 u4 u5
   have HC:=Lib.hid hC
   have H11:=Lib.hid h11
   have H14:=Lib.hid h14
   obtain ⟨lN,hlN⟩:∃ l,l=(dig N).length:=⟨_,rfl⟩
   obtain ⟨lM,hlM⟩:∃ l,l=(dig M).length:=⟨_,rfl⟩
   rw [← hlN] at H11
   rw [← hlM] at H14
   rw [← hlN,← hlM]
   clear hC h11 h14 hlN hlM
   go_wp2
   go_loopg [5,6] M (fun k x y wr=>∃ (A B:Option Addr) (la ca lb cb:Nat) (u v:Nat),x=.slice A la ca∧y=.slice B lb cb∧Hid (Words wr (.slice A la ca) (dig u))∧Hid (Words wr (.slice B lb cb) (dig v))∧Hid (Nat.gcd u v=Nat.gcd N M)∧Hid (v≤k)∧Hid ((dig u).length≤250000001)∧Hid ((dig v).length≤250000001)∧Hid (Below w0.heap.size w0 wr)∧Hid (BoxAt wr (w0.heap.size+1+1) #[.bool false,.string ⟨#[]⟩] 23))
   case atStart=>exact ⟨_,_,_,_,_,_,N,M,rfl,rfl,H11,H14,rfl,Nat.le_refl _,KN,KM,HC.out.1,HC.out.2.get 0 rfl⟩
   case round =>
    obtain ⟨A,B,la,ca,lb,cb,u,v,rfl,rfl,hu,hv,hg,hk,hul,hvl,hb,hbox⟩:=hrel
    have hl:=hv.out.len.1
    have hlb:=hv.out.2.1
    by_cases h0:0<lb
    · have hv0:0<v:=by
       rcases Nat.eq_zero_or_pos v with h | h
       · rw [h,dig_zero] at hl; simp at hl; omega
       · exact h
      have HV0:=Lib.hid hv0
      have hlb2:lb≤17179869184:=by omega
      clear hl hlb hv0
      go_wp2_with fail
      refine (divided_any hu.out hv.out HV0.out (by rw [hu.out.len.1]; exact Nat.le_trans hul.out (by decide))).mono ?_
      rintro e w3 ⟨v1,v2,rfl,h1,h2,h3⟩
      obtain ⟨A2,m2,c2,rfl⟩:=h2.form
      have H2:=Lib.hid h2
      have H3:=Lib.hid h3
      clear h1 h2 h3
      go_wp2
      go_roundg (u % v)
      case measure=>exact Nat.lt_of_lt_of_le (Nat.mod_lt _ HV0.out) hk.out
      case rel =>
       refine ⟨B,A2,lb,cb,m2,c2,v,u % v,rfl,rfl,hv.out.below H3.out,H2.out,?_,Nat.le_refl _,hvl.out,?_,hb.out.trans (H3.out.mono hb.out.size),hbox.out.on H3.out⟩
       · rw [Hid,← hg.out,Nat.gcd_comm v,← Nat.gcd_rec,Nat.gcd_comm]
       · exact Nat.le_trans (dig_len_mono _ _ (Nat.le_of_lt (Nat.mod_lt _ HV0.out))) hvl.out
    · obtain rfl:lb=0:=by omega
      have hv0:=(dig_nil_iff v).1 (List.eq_nil_of_length_eq_zero hl.symm)
      subst hv0
      have hgu:=hg.out
      rw [Nat.gcd_zero_right] at hgu
      have HG:=Lib.hid hgu
      clear hl hlb hgu
      go_wp2_with fail
      refine (made_any false hu.out (by rw [hu.out.len.1]; exact Nat.le_trans hul.out (by decide))).mono ?_
      rintro e w3 ⟨rfl,hb3⟩
      have hval:wholeV (sg false (val (dig u)))=.agg #[.bool false,.string (mag u)]:=by rw [val_dig]; exact wholeV_nat u
      rw [hval]
      obtain ⟨g,hg2⟩:∃ g,g=mag u:=⟨_,rfl⟩
      rw [← hg2]
      have HGG:Hid (g=mag (Nat.gcd N M)):=by rw [hg2,HG.out]; rfl
      have HX:=Lib.hid (hbox.out.on hb3)
      have HB3:=Lib.hid (hb.out.trans (hb3.mono hb.out.size))
      have hp0:=HX.out.cell 0 _ rfl
      have hp1:=HX.out.cell 1 _ rfl
      have hf:=HX.out.frozen
      clear hval hg2 hb3
      go_wp2
      have hk:=(HX.out.set 0 (.bool false)).set 1 (.string g)
      have k0:=hk.cell 0 _ rfl
      have k1:=hk.cell 1 _ rfl
      exact bodyPost_ret (v:=.agg #[.bool false,.string g]) (by simp [results,Tryz.results257,go_sem,k0,k1]) rfl ⟨_,rfl,HGG,below_put2 HB3.out (by omega) _ _⟩
theorem sg_exact {n m:Int} (h:m ∣ n):sg (decide (n<0) != decide (m<0)) (n.natAbs/m.natAbs)=n/m:=by
 obtain ⟨k,rfl⟩:=h
 by_cases hm:m=0
 · subst hm; simp [sg]
 have h1:m*k/m=k:=Int.mul_ediv_cancel_left k hm
 have h2:(m*k).natAbs/m.natAbs=k.natAbs:=by
  rw [Int.natAbs_mul]
  exact Nat.mul_div_cancel_left _ (by omega)
 rw [h1,h2]
 by_cases hk:k=0
 · subst hk; simp [sg]
 rcases Int.lt_or_gt_of_ne hm with h3 | h3<;>rcases Int.lt_or_gt_of_ne hk with h4 | h4
 · have:¬ m*k<0:=by have:=Int.mul_pos_of_neg_of_neg h3 h4; omega
   simp [sg,this,h3]; omega
 · have:=Int.mul_neg_of_neg_of_pos h3 h4
   simp [sg,this,h3]; omega
 · have:=Int.mul_neg_of_pos_of_neg h3 h4
   simp [sg,this,show ¬ m<0 by omega]; omega
 · have:¬ m*k<0:=by have:=Int.mul_pos h3 h4; omega
   simp [sg,this,show ¬ m<0 by omega]; omega
end Go.Proofs.YtmfedaakeeiolaaGreat
end
